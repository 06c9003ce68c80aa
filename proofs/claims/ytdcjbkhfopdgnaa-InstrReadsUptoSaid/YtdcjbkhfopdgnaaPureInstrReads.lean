/- What any bytes are as instructions: the plain part, for no more bytes than the bound. -/
import Derived.Test.YtdcjbkhfopdgnaaQInstrReads
import Derived.Test.YtdcjbkhfopdgnaaInstrP3
set_option linter.unusedSimpArgs false
set_option linter.unusedVariables false
namespace Go.Proofs.Ytdcjbkhfopdgnaa.Pure
open Go.RowKit Go.Proofs.Ytdcjbkhfopdgnaa.P Go.Proofs.Ytdcjbkhfopdgnaa.Pl Go.Proofs.YtdcjbkhfopdgnaaW.PrintWords Go.Proofs.YtdcjbkhfopdgnaaW.PrintLast Go.Proofs.YtdcjbkhfopdgnaaW.PrintMore
theorem ok_of (x0 : List Int) (h0 : ∀ y ∈ x0, (Lit.int .u8 y).wf = true) : okB x0 := by
  intro y hy
  have := h0 y hy
  simp [Lit.wf] at this
  have e1 : IntKind.u8.min = 0 := by kernel_rfl
  have e2 : IntKind.u8.max = 255 := by kernel_rfl
  omega
theorem walk_all (b : List Int) (h : okB b) (hl : b.length ≤ 1048576) (most : Int) : pianolalaw05_walk.f b most = some ((goneF (gone b (b.length + 1) 0).1 most).map (·.2), (goneF (gone b (b.length + 1) 0).1 most).map (·.1), true) := by
  unfold pianolalaw05_walk.f
  rw [if_pos (by omega), allF_gone b h (b.length + 1) 0 (by omega)]
  rfl
theorem gone_neg (xs : List Ins) : goneF xs (-1) = xs := by
  unfold goneF
  rw [if_neg (by omega)]
theorem gone_pre (xs : List Ins) (most : Int) : goneF xs most <+: xs ∧ ((goneF xs most).length = xs.length ∨ ((goneF xs most).length : Int) = most) := by
  unfold goneF
  by_cases c : 1 ≤ most ∧ most ≤ xs.length
  · rw [if_pos c]
    refine ⟨List.take_prefix _ _, .inr ?_⟩
    rw [List.length_take]; omega
  · rw [if_neg c]
    exact ⟨List.prefix_refl _, .inl rfl⟩
theorem rd_pre {u want : List X} (h : u <+: want) (i : Nat) (hi : i < u.length) : rd_T58 u (i : Int) = rd_T58 want (i : Int) := by
  rw [rd_at u i hi, rd_at want i (Nat.lt_of_lt_of_le hi h.length_le)]
  obtain ⟨r, rfl⟩ := h
  rw [List.getElem_append_left hi]
theorem l1_is (x1 : Int) (want u : List X) (q : List Int) (hu : u <+: want) (hlen : q.length = want.length) (hend : u.length = want.length ∨ (u.length : Int) = x1) (hq : q.length ≤ 1048576) : ∀ (d i k : Nat), i + d = q.length → pianolalaw05_InstrReads.l1 (k + 1 + d) x1 want q q u (i : Int) = some true
  | 0, i, k, h => by
    rw [Nat.add_zero, pianolalaw05_InstrReads.l1, if_neg (by omega)]
    by_cases c : (u.length : Int) = (want.length : Int)
    · rw [if_pos c]
    · rw [if_neg c]
      rcases hend with e | e
      · omega
      · rw [e, beq_self_eq_true]
  | d + 1, i, k, h => by
    have hw : wrap64 ((i : Int) + 1) = ((i + 1 : Nat) : Int) := by unfold wrap64; omega
    have ih := l1_is x1 want u q hu hlen hend hq d (i + 1) k (by omega)
    rw [show k + 1 + (d + 1) = (k + 1 + d) + 1 by omega, pianolalaw05_InstrReads.l1, if_pos (by omega), if_pos (by omega), if_pos (by omega), if_pos rfl, hw]
    by_cases c : (i : Int) < (u.length : Int)
    · rw [if_pos c, if_pos (by omega), rd_pre hu i (by omega), if_neg (by simp)]
      exact ih
    · rw [if_neg c]
      exact ih
theorem j3_is (b : List Int) (h : okB b) (hl : b.length ≤ 1048576) (x1 : Int) (m : Nat) (hm : b.length + 10 ≤ m) : pianolalaw05_InstrReads.j3 m b x1 ((gone b (b.length + 1) 0).1.map (·.2)) ((gone b (b.length + 1) 0).1.map (·.1)) = some true := by
  obtain ⟨m, rfl⟩ : ∃ m', m = m' + 1 := ⟨m - 1, by omega⟩
  have hg := (gone_le b h (b.length + 1) 0 (by omega)).2
  obtain ⟨xs, hxs⟩ : ∃ xs, (gone b (b.length + 1) 0).1 = xs := ⟨_, rfl⟩
  have hlx : xs.length ≤ b.length := by rw [← hxs]; omega
  rw [pianolalaw05_InstrReads.j3, walk_all b h hl (-1), walk_all b h hl x1, hxs, gone_neg]
  simp only [Option.bind_some, if_true]
  have e1 : m = (m - 1 - (xs.map (fun x : Ins => x.2)).length) + 1 + (xs.map (fun x : Ins => x.2)).length := by rw [List.length_map]; omega
  have hs := same_f (m - 1 - (xs.map (fun x : Ins => x.2)).length) (xs.map (fun x : Ins => x.2)) (by rw [List.length_map]; omega)
  rw [← e1] at hs
  rw [hs]
  simp only [Option.bind_some, if_true, bne_self_eq_false]
  obtain ⟨m, rfl⟩ : ∃ m', m = m' + 1 := ⟨m - 1, by omega⟩
  rw [pianolalaw05_InstrReads.j4, if_neg (by decide)]
  obtain ⟨hp, he⟩ := gone_pre xs x1
  have hl1 := l1_is x1 (xs.map (fun x : Ins => x.2)) ((goneF xs x1).map (fun x : Ins => x.2)) (xs.map (fun x : Ins => x.1)) (hp.map _) (by simp) (by rw [List.length_map, List.length_map]; exact he) (by rw [List.length_map]; omega) xs.length 0 (m - 1 - xs.length) (by simp)
  rw [show m - 1 - xs.length + 1 + xs.length = m by omega] at hl1
  exact hl1
theorem l0_is (b : List Int) (h : okB b) (hl : b.length ≤ 1048576) (x1 : Int) (W : List X) (Pl : List Int) (K : Nat) (hj : ∀ m, K ≤ m → pianolalaw05_InstrReads.j3 m b x1 W Pl = some true) : ∀ (n at_ : Nat) (want : List X) (pl : List Int), at_ ≤ b.length → b.length - at_ < n → want.length ≤ at_ → pl.length ≤ at_ →
    want ++ (gone b n at_).1.map (·.2) = W → pl ++ (gone b n at_).1.map (·.1) = Pl → pianolalaw05_InstrReads.l0 (K + 6 + n) b x1 want pl (at_ : Int) = some true
  | 0, _, _, _, _, hn, _, _, _, _ => absurd hn (by omega)
  | n + 1, at_, want, pl, ha, hn, hw, hp, e1, e2 => by
    rw [show K + 6 + (n + 1) = (K + 6 + n) + 1 by omega, pianolalaw05_InstrReads.l0]
    rw [gone] at e1 e2
    by_cases c : at_ < b.length
    · rw [if_pos (by omega), if_pos (by omega), if_pos (by omega), Int.toNat_natCast]
      rw [if_pos c] at e1 e2
      rw [show K + 6 + n = (K + 1 + n) + 5 by omega, rfirst_is _ _ (ok_drop h at_)]
      simp only [Option.bind_some]
      rcases gone_step b h at_ c with e | ⟨x, s, e, h1, h2, h3, h4, h5, h6⟩
      · rw [e, if_pos rfl] at e1 e2
        simp only [List.map_nil, List.append_nil] at e1 e2
        subst e1
        subst e2
        rw [e, if_pos rfl]
        exact hj _ (by omega)
      · rw [e, if_neg (by simp only []; omega)] at e1 e2
        simp only [Int.toNat_natCast, List.map_cons] at e1 e2
        rw [e, if_neg (by simp only []; omega), if_pos (by omega), if_pos (by omega), show K + 1 + n + 5 = K + 6 + n by omega]
        simp only []
        rw [show wrap64 ((at_ : Int) + (s : Int)) = ((at_ + s : Nat) : Int) by unfold wrap64; omega]
        exact l0_is b h hl x1 W Pl K hj n (at_ + s) (want ++ [x]) (pl ++ [(at_ : Int)]) h4 (by omega) (by rw [List.length_append, List.length_singleton]; omega) (by rw [List.length_append, List.length_singleton]; omega)
          (by rw [← e1, List.append_assoc]; rfl) (by rw [← e2, List.append_assoc]; rfl)
    · rw [if_neg c] at e1 e2
      simp only [List.map_nil, List.append_nil] at e1 e2
      subst e1
      subst e2
      rw [if_neg (by omega)]
      exact hj _ (by omega)
theorem InstrReads (x0 : List Int) (x1 : Int) (h0 : ∀ y ∈ x0, (Lit.int .u8 y).wf = true) (h1 : (Lit.int .i64 x1).wf = true) (h2 : x0.length ≤ 1048576) : ∃ k, pianolalaw05_InstrReads.f k x0 x1 = some true := by
  have h := ok_of x0 h0
  have hg := gone_le x0 h (x0.length + 1) 0 (by omega)
  refine ⟨x0.length + 10 + 6 + (x0.length + 1) + 2, ?_⟩
  have hrest : pianolalaw05_InstrReads.j1 (x0.length + 10 + 6 + (x0.length + 1) + 1) x0 x1 = some true := by
    rw [pianolalaw05_InstrReads.j1]
    exact l0_is x0 h h2 x1 _ _ (x0.length + 10) (fun m hm => j3_is x0 h h2 x1 m hm) (x0.length + 1) 0 [] [] (by omega) (by omega) (by simp) (by simp) rfl rfl
  unfold pianolalaw05_InstrReads.f
  simp only [Option.bind_some, List.nil_append, List.length_nil, Nat.zero_add]
  rw [if_pos (by omega), dec_all x0 h]
  have hd := rdec_all x0 h (x0.length + 12)
  rw [show x0.length + 12 + 6 + (x0.length + 1) = x0.length + 10 + 6 + (x0.length + 1) + 2 by omega] at hd
  rw [hd]
  simp only [Option.bind_some]
  rw [show pianolalaw05_lives.f = some true from rfl]
  simp only [Option.bind_some, if_true]
  have hdl : (decR x0).1.length ≤ x0.length := by
    unfold decR
    split
    · simp
    · split
      · simp
      · simp only [List.length_map]; omega
  have hs := same_f (x0.length + 10 + 6 + (x0.length + 1) + 1 - (decR x0).1.length) (decR x0).1 (by omega)
  rw [show x0.length + 10 + 6 + (x0.length + 1) + 1 - (decR x0).1.length + 1 + (decR x0).1.length = x0.length + 10 + 6 + (x0.length + 1) + 2 by omega] at hs
  rw [hs]
  simp only [Option.bind_some, if_true, bne_self_eq_false]
  rw [pianolalaw05_InstrReads.j0, if_neg (by decide)]
  by_cases c : (decR x0).2.1 = 0
  · rw [if_pos c, enc_f]
    simp only [Option.bind_some]
    have hd2 : ¬ (x0.length : Int) > 4096 := by
      intro e
      unfold decR at c
      rw [if_pos e] at c
      exact absurd c (by decide)
    have hd3 : ¬ ((gone x0 (x0.length + 1) 0).2 : Int) < x0.length := by
      intro e
      unfold decR at c
      rw [if_neg hd2, if_pos e] at c
      exact absurd (show (50 : Int) = 0 from c) (by decide)
    have hcat := cat_gone x0 h (x0.length + 1) 0 (by omega)
    have hx : cat (decR x0).1 = x0 ∧ ∀ x ∈ (decR x0).1, mayB x.f0 x.f1 = true := by
      unfold decR
      rw [if_neg hd2, if_neg hd3]
      refine ⟨hcat.1.trans ?_, hcat.2⟩
      rw [List.drop_zero, Nat.sub_zero, List.take_of_length_le (by omega)]
    have hbad : ¬ 0 ≤ bad (decR x0).1 0 := by
      have key : ∀ (l : List X) (i : Nat), (∀ x ∈ l, mayB x.f0 x.f1 = true) → bad l i = -1 := by
        intro l
        induction l with
        | nil => intro i _; rfl
        | cons y l ih =>
          intro i hm
          rw [bad, if_pos (hm y List.mem_cons_self)]
          exact ih (i + 1) (fun x hx => hm x (List.mem_cons_of_mem _ hx))
      rw [key _ 0 hx.2]
      decide
    unfold encR
    rw [if_neg hbad, hx.1, if_pos (show x0.length ≤ 4096 by omega)]
    simp only [if_true]
    exact hrest
  · rw [if_neg c]
    exact hrest
end Go.Proofs.Ytdcjbkhfopdgnaa.Pure
