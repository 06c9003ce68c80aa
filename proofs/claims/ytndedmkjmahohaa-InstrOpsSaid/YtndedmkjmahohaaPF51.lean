/- Ytndedmkjmahohaa: what Go functions come to, and that they do: walks, printed by a program of this session or typed by hand; no statement of the seat stands here. -/
import Derived.Test.YtndedmkjmahohaaP0
import Derived.Laws.IdiomStrings
import Derived.LoopTactic
namespace Go.Proofs.Ytndedmkjmahohaa.P
open Go.RowKit Go.Proofs.YtndedmkjmahohaaW.PrintWords Go.Proofs.YtndedmkjmahohaaW.PrintLast Go.Proofs.YtndedmkjmahohaaW.PrintMore
attribute [local go_sem] max2_int min2_int max_two min_two max_three min_three max_four min_four   -- for this text's walks alone
set_option linter.unusedVariables false
set_option linter.unusedSimpArgs false


/-! ### instr_kinds: function 51 -/
-- IMPORT Derived.LoopTactic
-- IMPORT Derived.Laws.IdiomStrings
def kind1 (c : UInt8) : Int := if c.toNat = 105 then 1 else if c.toNat = 102 then 2 else 0
def instr_kinds.f (a0 : ByteArray) : Option (List Int) := if a0.size < 1000 then some (a0.data.toList.map kind1) else none
theorem infoK : (Try.prog.info? 3).map (fun i => (i.zero, i.size, i.bytes)) = some (some (.int .i64 0), 1, 8) := by kernel_rfl
theorem take_kind (a0 : ByteArray) (k : Nat) (h : k < a0.data.size) (K : Int) (hk : kind1 a0.data[k] = K) : (a0.data.toList.take (k + 1)).map kind1 = (a0.data.toList.take k).map kind1 ++ [K] := by
  have h' : k < a0.data.toList.length := by simpa using h
  rw [List.take_succ_eq_append_getElem h', List.map_append, List.map_cons, List.map_nil]
  congr 2
theorem R_lateK {α : Type} {d : Kd α} {e : Nat} {w w1 : World} {base : Nat} {ok : Nat → Prop} {v : Value} {xs : List α} (h : d.R e w base ok v xs) (hm : ∀ k, base ≤ k → k < w.heap.size → w1.heap[k]? = w.heap[k]?) : d.R e w1 base ok v xs :=
  Kd.R_mono (Kd.R_step (Kd.R_bound h) (fun k hk hlt => hm k hk.2.1 hlt)) (fun _ hk => hk.1)
set_option maxRecDepth 100000 in
set_option maxHeartbeats 4000000 in
theorem instr_kinds.calls (a0 : ByteArray) (r : List Int) (w : World) (h : instr_kinds.f a0 = some r) : Calls Try.prog 51 #[.string a0] w fun e w' => ∃ v0_ : Value, e = .returned v0_ ∧ Kd.R (Kd.int .i64) 3 w' w.heap.size (fun _ => True) v0_ r ∧ Below w.heap.size w w' := by
  unfold instr_kinds.f at h
  by_cases hn : a0.size < 1000
  · rw [if_pos hn] at h
    obtain rfl := Option.some.inj h
    clear h
    have hcv := run_bytes_of_string (P := Try.prog) w 9 29 5 a0 Try.underlying9 Try.underlying29 Try.underlying5
    obtain ⟨C, hC⟩ : ∃ C, grownCap w a0.size 0 5 = C := ⟨_, rfl⟩
    rw [hC] at hcv
    obtain ⟨W1, hW1⟩ : ∃ W1, w.drew.alloc (.cells (bytesRow a0 C) 5 ((bytesRow a0 C).size, (bytesRow a0 C).size + 1)) = W1 := ⟨_, rfl⟩
    rw [hW1] at hcv
    have hz1 : W1.heap.size = w.heap.size + 1 := by rw [← hW1]; exact World.size_alloc _ _
    have hb1 : Below w.heap.size w W1 := by rw [← hW1]; exact (below_drew (Below.refl _ w)).alloc (Nat.le_refl _) _
    have hx : W1.heap[w.heap.size]? = some (.cells (bytesRow a0 C) 5 ((bytesRow a0 C).size, (bytesRow a0 C).size + 1)) := by rw [← hW1]; exact heap_alloc_new w.drew _
    have hc : ∀ k (hk : k < a0.data.size), W1.cell? ⟨w.heap.size, k, none⟩ = some (.int .u8 (a0.data[k].toNat : Int)) := fun k hk => by
      have h := bytesRow_at a0 C k hk
      simp only [World.cell?, hx]
      exact h
    have HX := Aside0.mk hx
    have HB1 := Aside0.mk hb1
    have HCc := Aside0.mk hc
    clear hx hb1 hc hW1 hC
    have hsz : a0.data.size = a0.size := rfl
    go_enter Try.func51, Try.ntmps51
    go_wp2
    go_loopw [3, 9] (fun v3 v9 W => ∃ k : Nat, v9 = .int .i64 k ∧ k ≤ a0.size ∧ Kd.R (Kd.int .i64) 3 W (w.heap.size + 1) (fun _ => True) v3 ((a0.data.toList.take k).map kind1) ∧ Below (w.heap.size + 1) W1 W) (fun _ v9 _ => a0.size - (intOf v9).toNat)
    case atStart => exact ⟨0, rfl, Nat.zero_le _, Kd.R_nil _ _ _ _ _, Below.refl _ _⟩
    case round =>
      obtain ⟨k, rfl, hk, hR, hB⟩ := hrel
      obtain ⟨A, c, hv⟩ := Kd.R_slice hR
      subst hv
      have hl : ((a0.data.toList.take k).map kind1).length = k := by simp; omega
      rw [hl]
      have hs : w.heap.size + 1 ≤ wr.heap.size := by have := hB.size; omega
      by_cases hk4 : k < a0.size
      · have hcell : wr.cell? ⟨w.heap.size, k, none⟩ = some (.int .u8 (a0.data[k].toNat : Int)) := (hB.cell (p := ⟨w.heap.size, k, none⟩) (by show w.heap.size < w.heap.size + 1; omega)).trans (HCc.out k hk4)
        have HB := Aside0.mk hB
        have HR := Aside0.mk hR
        clear hB hR
        have HR2 := Aside0.mk (show Kd.R (Kd.int .i64) 3 wr (w.heap.size + 1) (fun _ => True) (.slice A k c) ((a0.data.toList.take k).map kind1) by have h := HR.out; rw [hl] at h; exact h)
        obtain ⟨b, hb⟩ : ∃ b : Int, (a0.data[k].toNat : Int) = b := ⟨_, rfl⟩
        rw [hb] at hcell
        by_cases c1 : a0.data[k].toNat = 105
        · have hk1 : kind1 a0.data[k] = 1 := by unfold kind1; rw [if_pos c1]
          have f1 : (b == 105) = true := by rw [← hb, c1]; rfl
          have HC1 := Aside0.mk c1
          clear c1
          go_wp2_with ((with_reducible refine gate_builtin (b := .append) (xs := #[.tmp 19, .tmp 20]) rfl ?_); at_builtin; go_loud (refine Kd.R_append (Kd.int .i64) (w0 := W1) (w.heap.size + 1) rfl (.tmp 19) (.tmp 20) 37 3 (.int .i64 0) 8 rfl Try.underlying37 infoK rfl (by decide) (by decide) (.slice A k c) ((a0.data.toList.take k).map kind1) (1 : Int) [.int .i64 1] (fun _ => True) (fun _ => False) rfl (by first | (go_simp; done) | (go_simp; rfl)) ?aP (fun _ hk => hk.elim) (fun _ _ => trivial) ?aO ?aB ?aS ?aL ?_); (case aP => first | exact rfl | exact ⟨rfl⟩); (case aL => omega); (case aS => omega); (case aO => exact HR2.out); (case aB => exact HB.out); intro v1 w1 ho hb1 hg hat; obtain ⟨A1, c1, hv⟩ : ∃ A1 c1, v1 = .slice A1 (k + 1) c1 := (by obtain ⟨A1, c1, hv⟩ := Kd.R_slice ho; exact ⟨A1, c1, by rw [hv, List.length_append, hl]; rfl⟩); subst hv; clear hat hg; have HO1 := Aside0.mk ho; have HBB := Aside0.mk hb1; clear ho hb1)
          go_roundw
          case rel => exact ⟨k + 1, by go_num, by omega, by rw [take_kind a0 k hk4 _ hk1]; exact HO1.out, HBB.out⟩
          case measure => simp [intOf]; omega
        · by_cases c2 : a0.data[k].toNat = 102
          · have hk1 : kind1 a0.data[k] = 2 := by unfold kind1; rw [if_neg c1, if_pos c2]
            have f1 : (b == 105) = false := by rw [beq_eq_false_iff_ne]; omega
            have f2 : (b == 102) = true := by rw [← hb, c2]; rfl
            clear c1 c2
            go_wp2_with ((with_reducible refine gate_builtin (b := .append) (xs := #[.tmp 24, .tmp 25]) rfl ?_); at_builtin; go_loud (refine Kd.R_append (Kd.int .i64) (w0 := W1) (w.heap.size + 1) rfl (.tmp 24) (.tmp 25) 37 3 (.int .i64 0) 8 rfl Try.underlying37 infoK rfl (by decide) (by decide) (.slice A k c) ((a0.data.toList.take k).map kind1) (2 : Int) [.int .i64 2] (fun _ => True) (fun _ => False) rfl (by first | (go_simp; done) | (go_simp; rfl)) ?aP (fun _ hk => hk.elim) (fun _ _ => trivial) ?aO ?aB ?aS ?aL ?_); (case aP => first | exact rfl | exact ⟨rfl⟩); (case aL => omega); (case aS => omega); (case aO => exact HR2.out); (case aB => exact HB.out); intro v1 w1 ho hb1 hg hat; obtain ⟨A1, c1, hv⟩ : ∃ A1 c1, v1 = .slice A1 (k + 1) c1 := (by obtain ⟨A1, c1, hv⟩ := Kd.R_slice ho; exact ⟨A1, c1, by rw [hv, List.length_append, hl]; rfl⟩); subst hv; clear hat hg; have HO1 := Aside0.mk ho; have HBB := Aside0.mk hb1; clear ho hb1)
            go_roundw
            case rel => exact ⟨k + 1, by go_num, by omega, by rw [take_kind a0 k hk4 _ hk1]; exact HO1.out, HBB.out⟩
            case measure => simp [intOf]; omega
          · have hk1 : kind1 a0.data[k] = 0 := by unfold kind1; rw [if_neg c1, if_neg c2]
            have f1 : (b == 105) = false := by rw [beq_eq_false_iff_ne]; omega
            have f2 : (b == 102) = false := by rw [beq_eq_false_iff_ne]; omega
            clear c1 c2
            go_wp2_with ((with_reducible refine gate_builtin (b := .append) (xs := #[.tmp 14, .tmp 15]) rfl ?_); at_builtin; go_loud (refine Kd.R_append (Kd.int .i64) (w0 := W1) (w.heap.size + 1) rfl (.tmp 14) (.tmp 15) 37 3 (.int .i64 0) 8 rfl Try.underlying37 infoK rfl (by decide) (by decide) (.slice A k c) ((a0.data.toList.take k).map kind1) (0 : Int) [.int .i64 0] (fun _ => True) (fun _ => False) rfl (by first | (go_simp; done) | (go_simp; rfl)) ?aP (fun _ hk => hk.elim) (fun _ _ => trivial) ?aO ?aB ?aS ?aL ?_); (case aP => first | exact rfl | exact ⟨rfl⟩); (case aL => omega); (case aS => omega); (case aO => exact HR2.out); (case aB => exact HB.out); intro v1 w1 ho hb1 hg hat; obtain ⟨A1, c1, hv⟩ : ∃ A1 c1, v1 = .slice A1 (k + 1) c1 := (by obtain ⟨A1, c1, hv⟩ := Kd.R_slice ho; exact ⟨A1, c1, by rw [hv, List.length_append, hl]; rfl⟩); subst hv; clear hat hg; have HO1 := Aside0.mk ho; have HBB := Aside0.mk hb1; clear ho hb1)
            go_roundw
            case rel => exact ⟨k + 1, by go_num, by omega, by rw [take_kind a0 k hk4 _ hk1]; exact HO1.out, HBB.out⟩
            case measure => simp [intOf]; omega
      · obtain rfl : k = a0.size := by omega
        have HB := Aside0.mk hB
        have HR := Aside0.mk hR
        clear hB hR
        go_wp2_with fail
        go_ret
        have e : a0.data.toList.take a0.size = a0.data.toList := List.take_of_length_le (by simp [hsz])
        have hR := HR.out
        rw [hl] at hR
        rw [e] at hR
        exact ⟨_, rfl, Kd.R_lower (base := w.heap.size + 1) hR (by omega), HB1.out.trans (HB.out.mono (by omega))⟩
  · rw [if_neg hn] at h
    cases h

end Go.Proofs.Ytndedmkjmahohaa.P
