/- Ytpfbfnbffglbkaa: what Go functions come to, and that they do: walks, printed by a program of this session or typed by hand; no statement of the seat stands here. -/
import Derived.Test.YtpfbfnbffglbkaaP0
import Derived.Test.YtpfbfnbffglbkaaPF41
import Derived.Laws.EntriesVeiled
import Derived.Test.YtpfbfnbffglbkaaFlowA
namespace Go.Proofs.Ytpfbfnbffglbkaa.P
open Go.RowKit Go.Proofs.YtpfbfnbffglbkaaW.PrintWords Go.Proofs.YtpfbfnbffglbkaaW.PrintLast Go.Proofs.YtpfbfnbffglbkaaW.PrintMore
attribute [local go_sem] max2_int min2_int max_two min_two max_three min_three max_four min_four   -- for this text's walks alone
set_option linter.unusedVariables false
set_option linter.unusedSimpArgs false


/-! ### flow_Order: function 21 -/
-- IMPORT Derived.Test.YtpfbfnbffglbkaaFlowA
-- IMPORT Derived.Laws.EntriesVeiled
/-- The blocks in their order. -/
def ordB (b : List S30) : List Int := if b.length = 0 then [] else (vis (nxB b) b.length b.length 0 (List.replicate b.length false, [])).2.reverse
def flow_Order.f (l0 : List S30) : Option (List Int) := if l0.length ≤ 3600000000000 then some (ordB l0) else none
theorem OI_start (w : World) (n : Nat) (Ab : Option Addr) (cb : Nat) : OI w (((((w.alloc (.cells #[.slice Ab n cb] 25)).alloc (.cells (madeCells #[.bool false] n) 4)).alloc (.cells #[.slice (some ⟨w.heap.size + 1, 0, none⟩) n n] 36)).alloc (.cells #[.slice none 0 0] 23)).alloc (.cells #[.func (.func 39) #[] #[.pointer (some ⟨w.heap.size + 2, 0, none⟩), .pointer (some ⟨w.heap.size, 0, none⟩), .pointer (some ⟨w.heap.size + 4, 0, none⟩), .pointer (some ⟨w.heap.size + 3, 0, none⟩)]] 62)) n Ab cb (List.replicate n false) [] := by
  have hm : madeCells #[Value.bool false] n = (bools (List.replicate n false)).toArray := by
    apply Array.ext'
    show (madeCells #[Value.bool false] n).toList = bools (List.replicate n false)
    rw [toList_madeCells_one]
    unfold bools
    rw [List.map_replicate]
  refine ⟨?_, ?_, ?_, ⟨.slice none 0 0, ?_, own_nil _ _ _ _⟩, ?_, List.length_replicate, ?_⟩
  · exact blk_alloc (blk_alloc (blk_alloc (blk_alloc (blk_new w _) _) _) _) _
  · rw [← hm]
    exact blk_alloc (blk_alloc (blk_alloc (by have := blk_new (w.alloc (.cells #[.slice Ab n cb] 25)) (.cells (madeCells #[.bool false] n) 4); rw [World.size_alloc] at this; exact this) _) _) _
  · exact blk_alloc (blk_alloc (by have := blk_new ((w.alloc (.cells #[.slice Ab n cb] 25)).alloc (.cells (madeCells #[.bool false] n) 4)) (.cells #[.slice (some ⟨w.heap.size + 1, 0, none⟩) n n] 36); rw [World.size_alloc, World.size_alloc] at this; exact this) _) _
  · exact blk_alloc (by have := blk_new (((w.alloc (.cells #[.slice Ab n cb] 25)).alloc (.cells (madeCells #[.bool false] n) 4)).alloc (.cells #[.slice (some ⟨w.heap.size + 1, 0, none⟩) n n] 36)) (.cells #[.slice none 0 0] 23); rw [World.size_alloc, World.size_alloc, World.size_alloc] at this; exact this) _
  · have := blk_new ((((w.alloc (.cells #[.slice Ab n cb] 25)).alloc (.cells (madeCells #[.bool false] n) 4)).alloc (.cells #[.slice (some ⟨w.heap.size + 1, 0, none⟩) n n] 36)).alloc (.cells #[.slice none 0 0] 23)) (.cells #[.func (.func 39) #[] #[.pointer (some ⟨w.heap.size + 2, 0, none⟩), .pointer (some ⟨w.heap.size, 0, none⟩), .pointer (some ⟨w.heap.size + 4, 0, none⟩), .pointer (some ⟨w.heap.size + 3, 0, none⟩)]] 62)
    rw [World.size_alloc, World.size_alloc, World.size_alloc, World.size_alloc] at this
    exact this
  · exact below_alloc (below_alloc (below_alloc (below_alloc (below_alloc (Below.refl _ w) _) _) _) _) _
theorem OI_start3 (w : World) (n : Nat) (Ab : Option Addr) (cb : Nat) : (((((w.alloc (.cells #[.slice Ab n cb] 25)).alloc (.cells (madeCells #[.bool false] n) 4)).alloc (.cells #[.slice (some ⟨w.heap.size + 1, 0, none⟩) n n] 36)).alloc (.cells #[.slice none 0 0] 23)).alloc (.cells #[.func (.func 39) #[] #[.pointer (some ⟨w.heap.size + 2, 0, none⟩), .pointer (some ⟨w.heap.size, 0, none⟩), .pointer (some ⟨w.heap.size + 4, 0, none⟩), .pointer (some ⟨w.heap.size + 3, 0, none⟩)]] 62)).heap[w.heap.size + 3]? = some (.cells #[.slice none 0 0] 23 (0, 0)) :=
  blk_alloc (by have := blk_new (((w.alloc (.cells #[.slice Ab n cb] 25)).alloc (.cells (madeCells #[.bool false] n) 4)).alloc (.cells #[.slice (some ⟨w.heap.size + 1, 0, none⟩) n n] 36)) (.cells #[.slice none 0 0] 23); rw [World.size_alloc, World.size_alloc, World.size_alloc] at this; exact this) _
def OrdP (w : World) (r : List Int) (e : Ending) (w' : World) : Prop := ∃ v0_ : Value, e = .returned v0_ ∧ Kd.R (Kd.int .i64) 3 w' w.heap.size (fun _ => True) v0_ r ∧ Below w.heap.size w w'
set_option maxRecDepth 100000 in
set_option maxHeartbeats 4000000 in
theorem order_walk (A0 : Option Addr) (c0 : Nat) (l0 : List S30) (n : Nat) (hn : l0.length = n) (w : World) (hr0 : Kd.C k30 w A0 n l0) (hc0 : n ≤ c0) (hmx : n ≤ 3600000000000) :
    Calls Try.prog 21 #[.slice A0 n c0] w (OrdP w (ordB l0)) := by
  have HR0 := Aside0.mk hr0
  have HN := Aside0.mk hn
  have hn0 := hn
  have hmk := print_make_of (P := Try.prog) 36 4 (.bool false) 1 Try.underlying36 info4 rfl (by decide) n (by omega)
  have hmf : ∀ (fn : Fn) (first cap : Array Value) (w : World), (Instr.makeFunc fn first cap).run Try.prog w = .ok (.func fn first cap) w := fun _ _ _ _ => rfl
  have HN0 := Aside0.mk hn0
  clear hr0 hn hn0
  have HS := Aside0.mk (OI_start w n A0 c0)
  have HS3 := Aside0.mk (OI_start3 w n A0 c0)
  by_cases h0 : n = 0
  · have hp : ¬ (0 : Int) < (n : Int) := by omega
    have HZ := Aside0.mk h0
    clear h0
    go_enter Try.func21, Try.ntmps21
    go_wp2_with fail
    refine (slices_Reverse_int_int.calls 1 (fun _ => False) (.slice none 0 0) [] [] w _ HS.out.hb (Kd.R_nil _ _ _ _ _) (reverse_is [] (by decide))).mono ?_
    rintro e W2 ⟨rfl, hR2, hB2, hK2⟩
    have r6 : W2.cell? ⟨w.heap.size + 1 + 1 + 1, 0, none⟩ = some (.slice none 0 0) := blk_cell ((hK2.2 (w.heap.size + 3) (blk_lt HS3.out) (fun h => h)).trans HS3.out) 0
    have HR2 := Aside0.mk hR2
    have HB2 := Aside0.mk hB2
    clear hR2 hB2 hK2
    go_wp2_with fail
    go_ret
    refine ⟨_, rfl, ?_, HB2.out⟩
    have hord : ordB l0 = [] := by unfold ordB; rw [if_pos (by rw [HN0.out]; exact HZ.out)]
    rw [hord]
    exact Kd.R_nil _ _ _ _ _
  · have hp : (0 : Int) < (n : Int) := by omega
    have hvk := vis_ok (nxB l0) n n 0 (List.replicate n false, []) List.length_replicate (by omega) (by rw [List.getElem?_replicate, if_pos (by omega)]) (by unfold unseen; rw [List.count_replicate]; simp)
    have hun : unseen (List.replicate n false) = n := by unfold unseen; rw [List.count_replicate]; simp
    have hsum := hvk.sum
    dsimp only at hsum
    rw [hun, List.length_nil] at hsum
    have hord : ordB l0 = (vis (nxB l0) n n 0 (List.replicate n false, [])).2.reverse := by
      unfold ordB
      rw [if_neg (by rw [HN0.out]; exact h0), HN0.out]
    obtain ⟨r, hr⟩ : ∃ r, r = vis (nxB l0) n n 0 (List.replicate n false, []) := ⟨_, rfl⟩
    rw [← hr] at hsum hord
    have hrl : r.2.length ≤ n := by omega
    have HR := Aside0.mk hr
    have HORD := Aside0.mk hord
    have HUN := Aside0.mk hun
    clear hvk hun hsum hr hord
    go_enter Try.func21, Try.ntmps21
    go_wp2_with fail
    refine (visit_run w l0 n HN.out A0 c0 hc0 HR0.out hmx n _ 0 (List.replicate n false, []) HS.out (by omega) (by rw [List.getElem?_replicate, if_pos (by omega)]) (by rw [HUN.out]; exact Nat.le_refl _) (by rw [HUN.out]; simp)).mono ?_
    rintro e W ⟨rfl, hO⟩
    rw [← HR.out] at hO
    obtain ⟨v, hv, ho⟩ := hO.lb
    obtain ⟨A3, c3, rfl⟩ := own_slice ho
    have r5 : W.cell? ⟨w.heap.size + 1 + 1 + 1, 0, none⟩ = some (.slice A3 r.2.length c3) := blk_cell hv 0
    have HO := Aside0.mk hO
    have HV := Aside0.mk hv
    have HOW := Aside0.mk ho
    clear hO hv ho
    go_wp2_with fail
    refine (slices_Reverse_int_int.calls (r.2.length + 1) (fun k => w.heap.size + 5 ≤ k) (.slice A3 r.2.length c3) r.2 r.2.reverse w W HO.out.hb (Kd.R_lower (Kd.R_of_own (h1 := fun _ => rfl) HOW.out (fun k hk => own_base HOW.out k hk)) (by omega)) (reverse_is r.2 (by omega))).mono ?_
    rintro e W2 ⟨rfl, hR2, hB2, hK2⟩
    have r6 : W2.cell? ⟨w.heap.size + 1 + 1 + 1, 0, none⟩ = some (.slice A3 r.2.length c3) := blk_cell ((hK2.2 (w.heap.size + 3) (blk_lt HV.out) (by omega)).trans HV.out) 0
    have HR2 := Aside0.mk hR2
    have HB2 := Aside0.mk hB2
    clear hR2 hB2 hK2
    go_wp2_with fail
    go_ret
    exact ⟨_, rfl, by rw [HORD.out]; exact Kd.R_mono HR2.out (fun _ _ => trivial), HB2.out⟩
theorem flow_Order.calls (A0 : Option Addr) (c0 : Nat) (l0 : List S30) (r : List Int) (w : World) (hr0 : Kd.C k30 w A0 l0.length l0) (hc0 : l0.length ≤ c0) (h : flow_Order.f l0 = some r) :
    Calls Try.prog 21 #[.slice A0 l0.length c0] w fun e w' => ∃ v0_ : Value, e = .returned v0_ ∧ Kd.R (Kd.int .i64) 3 w' w.heap.size (fun _ => True) v0_ r ∧ Below w.heap.size w w' := by
  unfold flow_Order.f at h
  split at h
  · rename_i hb
    obtain rfl := Option.some.inj h
    exact order_walk A0 c0 l0 l0.length rfl w hr0 hc0 hb
  · exact absurd h (by simp)

end Go.Proofs.Ytpfbfnbffglbkaa.P
