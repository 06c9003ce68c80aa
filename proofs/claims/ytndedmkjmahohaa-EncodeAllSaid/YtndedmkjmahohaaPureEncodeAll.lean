/- The words of any instructions, or the first one that may not be: the plain part. -/
import Derived.Test.YtndedmkjmahohaaQEncodeAll
import Derived.Test.YtndedmkjmahohaaRefEnc
import Derived.Test.YtndedmkjmahohaaA64R
set_option linter.unusedSimpArgs false
set_option linter.unusedVariables false
namespace Go.Proofs.Ytndedmkjmahohaa.Pure
open Go.RowKit Go.Proofs.Ytndedmkjmahohaa.P Go.Proofs.YtndedmkjmahohaaW.PrintWords Go.Proofs.YtndedmkjmahohaaW.PrintLast Go.Proofs.YtndedmkjmahohaaW.PrintMore Go.Proofs.Ytndedmkjmahohaa.A64
abbrev X := S55
theorem livesAll : pianolalaw12_lives.f = some true := by decide +kernel
theorem wfA {n : Int} (h : (Lit.int .i64 n).wf = true) : -9223372036854775808 ≤ n ∧ n < 9223372036854775808 := by
  simp [Lit.wf, IntKind.min, IntKind.max, IntKind.bits, IntKind.signed] at h
  omega
def encO (x : X) : Option (Int × Int) := encode_Encode.f x.f0 x.f1 x.f2 x.f3 x.f4 x.f5 x.f6 x.f7
def wd (x : X) : Int := ((encO x).getD (0, 0)).1
def er (x : X) : Int := ((encO x).getD (0, 0)).2
theorem enc_totX (x : X) : encO x = some (wd x, er x) ∧ (er x = 0 ∨ (er x = 120 ∧ wd x = 0)) := by
  unfold wd er
  rcases enc_tot x.f0 x.f1 x.f2 x.f3 x.f4 x.f5 x.f6 x.f7 with h | ⟨W, h⟩
  · have h' : encO x = some (0, 120) := h
    rw [h']; exact ⟨rfl, .inr ⟨rfl, rfl⟩⟩
  · have h' : encO x = some (W, 0) := h
    rw [h']; exact ⟨rfl, .inl rfl⟩
theorem rd_get (l : List X) (i : Nat) (h : i < l.length) : rd_T55 l (i : Int) = l[i] := by
  unfold rd_T55
  rw [Int.toNat_natCast, List.getD_eq_getElem?_getD, List.getElem?_eq_getElem h]
  rfl
theorem rdi_get (l : List Int) (i : Nat) (h : i < l.length) : rd l (i : Int) = l[i] := by
  unfold rd
  rw [Int.toNat_natCast, List.getD_eq_getElem?_getD, List.getElem?_eq_getElem h]
  rfl
theorem wrapN (i n : Nat) (h : i < n) (hn : n ≤ 70368744177664) : wrap64 ((i : Int) + 1) = ((i + 1 : Nat) : Int) := by unfold wrap64; omega
theorem all_go (l : List X) (hl : l.length < 2199023255552) : ∀ (d i k : Nat), i + d = l.length → d < k → (∀ j (h : j < l.length), j < i → er l[j] = 0) →
    ∃ r, encode_All.l0 k ((l.take i).map wd) l (l.length : Int) i = some r ∧ (((∀ j (h : j < l.length), er l[j] = 0) ∧ r = (l.map wd, 0, (l.length : Int))) ∨ ∃ (j : Nat) (h : j < l.length), (∀ i (h : i < l.length), i < j → er l[i] = 0) ∧ er l[j] = 120 ∧ r = ([], 120, (j : Int))) := by
  intro d
  induction d with
  | zero =>
    intro i k hi hk hg
    obtain ⟨k, rfl⟩ : ∃ m, k = m + 1 := ⟨k - 1, by omega⟩
    refine ⟨_, by rw [encode_All.l0, if_neg (by omega)], .inl ⟨fun j h => hg j h (by omega), ?_⟩⟩
    rw [List.take_of_length_le (by omega)]
    simp
  | succ d ih =>
    intro i k hi hk hg
    obtain ⟨k, rfl⟩ : ∃ m, k = m + 1 := ⟨k - 1, by omega⟩
    have hlt : i < l.length := by omega
    have he := (enc_totX l[i]).1
    unfold encO at he
    rw [encode_All.l0, if_pos (by omega), if_pos (by omega), if_pos (by omega), rd_get l i hlt, he]
    simp only [Option.bind_some]
    rcases (enc_totX l[i]).2 with h0 | ⟨h0, _⟩
    · obtain ⟨r, hr, h⟩ := ih (i + 1) k (by omega) (by omega) (fun j hj hji => by
        by_cases e : j = i
        · subst e; exact h0
        · exact hg j hj (by omega))
      refine ⟨r, ?_, h⟩
      rw [if_pos h0, if_pos (by simp; omega), wrapN i l.length hlt (by omega)]
      rw [List.take_succ_eq_append_getElem hlt, List.map_append] at hr
      exact hr
    · refine ⟨_, by rw [if_neg (by omega)], .inr ⟨i, hlt, fun j hj hji => hg j hj hji, h0, by rw [h0]⟩⟩
def by4 (w : Int) : List Int := [w % 256, (w / 256) % 256, (w / 65536) % 256, (w / 16777216) % 256]
theorem by4_len (a : List Int) : (a.flatMap by4).length = 4 * a.length := by
  induction a with
  | nil => rfl
  | cons x a ih => simp only [List.flatMap_cons, List.length_append, List.length_cons, ih]; simp [by4]; omega
theorem bytes_go (a : List Int) (hl : a.length < 2199023255552) : ∀ (d i k : Nat), i + d = a.length → d < k → encode_Bytes.l0 k ((a.take i).flatMap by4) a (a.length : Int) i = some (a.flatMap by4) := by
  intro d
  induction d with
  | zero =>
    intro i k hi hk
    obtain ⟨k, rfl⟩ : ∃ m, k = m + 1 := ⟨k - 1, by omega⟩
    rw [encode_Bytes.l0, if_neg (by omega), List.take_of_length_le (by omega)]
  | succ d ih =>
    intro i k hi hk
    obtain ⟨k, rfl⟩ : ∃ m, k = m + 1 := ⟨k - 1, by omega⟩
    have hlt : i < a.length := by omega
    have h2 := ih (i + 1) k (by omega) (by omega)
    rw [encode_Bytes.l0, if_pos (by omega), if_pos (by omega), if_pos (by omega), rdi_get a i hlt]
    simp only [Option.bind_some]
    have hlen : ((a.take i).flatMap by4).length = 4 * i := by rw [by4_len, List.length_take]; omega
    rw [if_pos (by rw [hlen]; simp; omega), wrapN i a.length hlt (by omega)]
    rw [List.take_succ_eq_append_getElem hlt, List.flatMap_append] at h2
    simpa [by4] using h2
theorem by4_get (a : List Int) (ha : ∀ w ∈ a, 0 ≤ w ∧ w < 4294967296) : ∀ (i : Nat) (h : i < a.length) (j : Nat) (hj : j < 4), (a.flatMap by4)[4 * i + j]? = some (shr .u32 a[i] (8 * (j : Int)) % 256) := by
  induction a with
  | nil => intro i h; simp at h
  | cons w a ih =>
    intro i h j hj
    have hb : (by4 w).length = 4 := rfl
    rw [List.flatMap_cons]
    cases i with
    | zero =>
      rw [List.getElem?_append_left (by rw [hb]; omega)]
      have hw := ha w (by simp)
      have : j = 0 ∨ j = 1 ∨ j = 2 ∨ j = 3 := by omega
      rcases this with rfl | rfl | rfl | rfl <;> simp [by4, shr, IntKind.bits] <;> omega
    | succ i =>
      rw [List.getElem?_append_right (by rw [hb]; omega), hb, show 4 * (i + 1) + j - 4 = 4 * i + j from by omega]
      simpa using ih (fun w hw => ha w (by simp [hw])) i (by simpa using h) j hj
theorem check_go (a : List Int) (ha : ∀ w ∈ a, 0 ≤ w ∧ w < 4294967296) (hl : a.length < 2199023255552) : ∀ (d i k : Nat), i + d = 4 * a.length → d < k → pianolalaw12_EncodeAll.l1 k a (a.flatMap by4) i = some true := by
  intro d
  induction d with
  | zero =>
    intro i k hi hk
    obtain ⟨k, rfl⟩ : ∃ m, k = m + 1 := ⟨k - 1, by omega⟩
    rw [pianolalaw12_EncodeAll.l1, by4_len, if_neg (by omega)]
  | succ d ih =>
    intro i k hi hk
    obtain ⟨k, rfl⟩ : ∃ m, k = m + 1 := ⟨k - 1, by omega⟩
    have e1 : wrap64 (Int.tdiv (i : Int) 4) = ((i / 4 : Nat) : Int) := by
      rw [Int.tdiv_eq_ediv_of_nonneg (by omega)]
      unfold wrap64
      omega
    have e2 : wrap64 (8 * Int.tmod (i : Int) 4) = 8 * ((i % 4 : Nat) : Int) := by
      rw [Int.tmod_eq_emod_of_nonneg (by omega)]
      unfold wrap64
      omega
    have hq : i / 4 < a.length := by omega
    have hg := by4_get a ha (i / 4) hq (i % 4) (by omega)
    rw [show 4 * (i / 4) + i % 4 = i from by omega] at hg
    have hr : rd (a.flatMap by4) (i : Int) = shr .u32 a[i / 4] (8 * ((i % 4 : Nat) : Int)) % 256 := by
      unfold rd
      rw [Int.toNat_natCast, List.getD_eq_getElem?_getD, hg]
      rfl
    rw [pianolalaw12_EncodeAll.l1, by4_len, if_pos (by omega), if_pos (by omega), e1, e2, if_pos (by omega), if_pos (by omega), if_pos (by omega), rdi_get a _ hq, hr, if_pos rfl, wrapN i (4 * a.length) (by omega) (by omega)]
    exact ih (i + 1) k (by omega) (by omega)
def Wf (x : X) : Prop := (-9223372036854775808 ≤ x.f1 ∧ x.f1 < 9223372036854775808) ∧ (-9223372036854775808 ≤ x.f2 ∧ x.f2 < 9223372036854775808) ∧ (-9223372036854775808 ≤ x.f3 ∧ x.f3 < 9223372036854775808) ∧ (-9223372036854775808 ≤ x.f4 ∧ x.f4 < 9223372036854775808) ∧ (-9223372036854775808 ≤ x.f5 ∧ x.f5 < 9223372036854775808) ∧ (-9223372036854775808 ≤ x.f6 ∧ x.f6 < 9223372036854775808) ∧ (-9223372036854775808 ≤ x.f7 ∧ x.f7 < 9223372036854775808)
theorem ref_tot (x : X) (h : Wf x) (k : Nat) : ∃ v ok, pianolaref12_Encode.f (k + 41) x.f0 x.f1 x.f2 x.f3 x.f4 x.f5 x.f6 x.f7 = some (v, ok) ∧ ((ok = true ∧ er x = 0 ∧ wd x = v) ∨ (ok = false ∧ er x = 120)) := by
  obtain ⟨h1, h2, h3, h4, h5, h6, h7⟩ := h
  obtain ⟨v, ok, hr, hc⟩ := ref_enc x.f0 x.f1 x.f2 x.f3 x.f4 x.f5 x.f6 x.f7 h1 h2 h3 h4 h5 h6 h7
  refine ⟨v, ok, at_rounds (fun k => pianolaref12_Encode.mono _ _ _ _ _ _ _ _ k) (by omega) hr, ?_⟩
  unfold er wd encO
  rcases hc with ⟨rfl, he⟩ | ⟨rfl, he⟩
  · rw [he]; exact .inl ⟨rfl, rfl, rfl⟩
  · rw [he]; exact .inr ⟨rfl, rfl⟩
theorem wd_range (x : X) : 0 ≤ wd x ∧ wd x < 4294967296 := enc_range _ _ _ _ _ _ _ _ _ _ (enc_totX x).1
/-- The law's loop where all may be. -/
theorem law_all (l : List X) (hw : ∀ x ∈ l, Wf x) (hl : l.length < 2199023255552) (hg : ∀ j (h : j < l.length), er l[j] = 0) (c : Nat) (hc : 5 * l.length + 50 ≤ c) :
    ∀ (d i k : Nat), i + d = l.length → d + c ≤ k → pianolalaw12_EncodeAll.l0 k l (l.map wd) 0 (l.length : Int) i = some true := by
  intro d
  induction d with
  | zero =>
    intro i k hi hk
    obtain ⟨k, rfl⟩ : ∃ m, k = m + 1 := ⟨k - 1, by omega⟩
    have hb := bytes_go (l.map wd) (by simpa using hl) l.length 0 k (by simp) (by omega)
    rw [Int.natCast_zero, List.take_zero, List.flatMap_nil] at hb
    have hbf : encode_Bytes.f k (l.map wd) = some ((l.map wd).flatMap by4) := by
      unfold encode_Bytes.f
      exact hb
    have ha : ∀ w ∈ l.map wd, 0 ≤ w ∧ w < 4294967296 := by
      intro w h
      obtain ⟨x, _, rfl⟩ := List.mem_map.1 h
      exact wd_range x
    rw [pianolalaw12_EncodeAll.l0, if_neg (by omega), hbf]
    simp only [Option.bind_some, if_true]
    rw [if_pos (by rw [List.length_map])]
    obtain ⟨k, rfl⟩ : ∃ m, k = m + 1 := ⟨k - 1, by omega⟩
    rw [pianolalaw12_EncodeAll.j1, by4_len, if_neg (by simp only [List.length_map]; rw [show wrap64 (4 * (l.length : Int)) = ((4 * l.length : Nat) : Int) from by unfold wrap64; omega]; simp)]
    have := check_go (l.map wd) ha (by simpa using hl) (4 * l.length) 0 k (by simp) (by omega)
    rw [Int.natCast_zero] at this
    exact this
  | succ d ih =>
    intro i k hi hk
    obtain ⟨k, rfl⟩ : ∃ m, k = m + 41 + 1 := ⟨k - 42, by omega⟩
    have hlt : i < l.length := by omega
    obtain ⟨v, ok, hr, h⟩ := ref_tot l[i] (hw _ (List.getElem_mem hlt)) k
    have h0 := hg i hlt
    rcases h with ⟨rfl, _, hv⟩ | ⟨_, h1⟩
    · rw [pianolalaw12_EncodeAll.l0, if_pos (by omega), if_pos (by omega), rd_get l i hlt, hr]
      simp only [Option.bind_some, if_true]
      rw [if_pos (by simp; omega), rdi_get (l.map wd) i (by simpa using hlt), List.getElem_map, if_pos hv, wrapN i l.length hlt (by omega)]
      exact ih (i + 1) _ (by omega) (by omega)
    · rw [h0] at h1; omega
/-- The law's loop where one may not be. -/
theorem law_bad (l : List X) (hw : ∀ x ∈ l, Wf x) (hl : l.length < 2199023255552) (j : Nat) (hj : j < l.length) (hg : ∀ i (h : i < l.length), i < j → er l[i] = 0) (hb : er l[j] = 120) :
    ∀ (d i k : Nat), i + d = j → d + 50 ≤ k → pianolalaw12_EncodeAll.l0 k l [] 120 (j : Int) i = some true := by
  intro d
  induction d with
  | zero =>
    intro i k hi hk
    obtain ⟨k, rfl⟩ : ∃ m, k = m + 41 + 1 := ⟨k - 42, by omega⟩
    obtain rfl : i = j := by omega
    obtain ⟨v, ok, hr, h⟩ := ref_tot l[i] (hw _ (List.getElem_mem hj)) k
    rcases h with ⟨_, h1, _⟩ | ⟨rfl, _⟩
    · omega
    · rw [pianolalaw12_EncodeAll.l0, if_pos (by omega), if_pos (by omega), rd_get l i hj, hr]
      rw [Option.bind_some, if_neg (by simp), if_pos (by rfl), if_pos rfl, beq_self_eq_true]
  | succ d ih =>
    intro i k hi hk
    obtain ⟨k, rfl⟩ : ∃ m, k = m + 41 + 1 := ⟨k - 42, by omega⟩
    have hlt : i < l.length := by omega
    obtain ⟨v, ok, hr, h⟩ := ref_tot l[i] (hw _ (List.getElem_mem hlt)) k
    have h0 := hg i hlt (by omega)
    rcases h with ⟨rfl, _, hv⟩ | ⟨_, h1⟩
    · rw [pianolalaw12_EncodeAll.l0, if_pos (by omega), if_pos (by omega), rd_get l i hlt, hr]
      rw [Option.bind_some, if_pos rfl, if_neg (by rw [List.length_nil]; omega), wrapN i l.length hlt (by omega)]
      exact ih (i + 1) _ (by omega) (by omega)
    · omega
theorem EncodeAll : Q.EncodeAll := by
  intro l ⟨hx, hz⟩
  have hw : ∀ x ∈ l, Wf x := fun x h => by
    obtain ⟨_, h1, h2, h3, h4, h5, h6, h7⟩ := hx x h
    exact ⟨wfA h1, wfA h2, wfA h3, wfA h4, wfA h5, wfA h6, wfA h7⟩
  have hl : l.length < 2199023255552 := by simp only [reachBytes] at hz; omega
  obtain ⟨K, hK⟩ : ∃ K, 7 * l.length + 100 ≤ K := ⟨_, Nat.le_refl _⟩
  obtain ⟨r, hr, h⟩ := all_go l hl l.length 0 K (by omega) (by omega) (fun j _ h => absurd h (by omega))
  refine ⟨K, ?_⟩
  rw [Int.natCast_zero, List.take_zero, List.map_nil] at hr
  have hr' : encode_All.f K ([] ++ l) = some r := by
    rw [List.nil_append]
    unfold encode_All.f
    exact hr
  unfold pianolalaw12_EncodeAll.f
  rw [Option.bind_some, if_pos (by simp; omega), hr', livesAll]
  rcases h with ⟨hg, rfl⟩ | ⟨j, hj, hg, hb, rfl⟩
  · have := law_all l hw hl hg (5 * l.length + 50) (by omega) l.length 0 K (by omega) (by omega)
    rw [Int.natCast_zero] at this
    rw [Option.bind_some, Option.bind_some, if_pos rfl]
    exact this
  · have := law_bad l hw hl j hj hg hb j 0 K (by omega) (by omega)
    rw [Int.natCast_zero] at this
    rw [Option.bind_some, Option.bind_some, if_pos rfl]
    exact this
end Go.Proofs.Ytndedmkjmahohaa.Pure
