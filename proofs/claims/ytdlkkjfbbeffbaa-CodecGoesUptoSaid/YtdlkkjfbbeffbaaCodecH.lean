/- codec.Encode; no statement of the seat. -/
import Derived.Test.YtdlkkjfbbeffbaaCodecG
set_option linter.unusedVariables false
set_option linter.unusedSimpArgs false
namespace Go.Proofs.Ytdlkkjfbbeffbaa.P
open Go.RowKit Go.Proofs.YtdlkkjfbbeffbaaW.PrintWords Go.Proofs.YtdlkkjfbbeffbaaW.PrintLast Go.Proofs.YtdlkkjfbbeffbaaW.PrintMore
/-- A code, or why there is none. -/
def encR (s : List Int × Int) : List Int × Int := if s.2 = 0 then (s.1, 0) else ([], s.2)
set_option maxRecDepth 100000 in
set_option maxHeartbeats 1000000 in
theorem clip_run (A : Option Addr) (n c : Nat) (xs : List Int) (w : World) (B e : Nat) (h : Kd.R (Kd.int .u8) e w B (fun _ => True) (.slice A n c) xs) : Calls Try.prog 58 #[.slice A n c] w fun r w' => (∃ A', r = .returned (.slice A' n n) ∧ Kd.C (Kd.int .u8) w A' n xs) ∧ w' = w := by
  obtain ⟨hn, hc, hC⟩ := Kd.R_reads' h
  have hmx := Kd.C_max hC
  obtain ⟨i0, hi0, _, hs0, _⟩ := info_parts (show (Try.prog.info? 5).map (fun i => (i.zero, i.size, i.bytes)) = some (some (.int .u8 0), 1, 1) by kernel_rfl)
  have hcut : ∀ W, (Instr.slice 40 (.slice A n c) none (some (.int .i64 (n : Int))) (some (.int .i64 (n : Int)))).run Try.prog W = .ok (.slice (if n = 0 then A else A.map (·.add 0)) n n) W := by
    intro W
    have hu : Try.prog.underlying 40 = some (.slice (Try.prog.elem 40)) := by kernel_rfl
    rw [run_slice_hm W 40 A n c hu .i64 .i64 (n : Int) (n : Int) (by omega) (by omega) (by omega)]
    have hz : (sizeOf (Try.prog.elem 40)).run Try.prog W = .ok 1 W := by kernel_rfl
    rw [hz]
    simp [sliced, Result.andThen]
  have hC2 : Kd.C (Kd.int .u8) w A n xs := by rw [hn]; exact hC
  have HC := Aside0.mk hC2
  clear h hC hC2 hi0 hs0 hn
  go_enter Try.func58, Try.ntmps58
  go_wp2_with fail
  go_ret
  exact ⟨⟨_, rfl, HC.out⟩, rfl⟩
theorem FixF.below {w w1 : World} {bm bn : Nat} {n : Int} (h : FixF w bm bn n) (hb : Below w.heap.size w w1) : FixF w1 bm bn n := ⟨blk_below h.m hb, blk_below h.n hb⟩
set_option maxRecDepth 100000 in
set_option maxHeartbeats 1000000 in
theorem enc_I (w : World) (f1 f2 n : Nat) (most x : Int) (hf : NumF w f1 f2 n most)  :
    Calls Try.prog 24 #[.agg #[(.func (.func 86) #[] #[.pointer (some ⟨f1, 0, none⟩), .pointer (some ⟨f2, 0, none⟩)]), (.func (.func 88) #[] #[.pointer (some ⟨f1, 0, none⟩), .pointer (some ⟨f2, 0, none⟩)])], .int .i64 x] w fun r w' => ∃ A' c', r = .returned (.tuple #[.slice A' (encR (numS ([], 0) n most x)).1.length c', .int .i64 (encR (numS ([], 0) n most x)).2]) ∧ Kd.C (Kd.int .u8) w' A' (encR (numS ([], 0) n most x)).1.length (encR (numS ([], 0) n most x)).1 ∧ (encR (numS ([], 0) n most x)).1.length ≤ c' ∧ Below w.heap.size w w' := by
  have hnn : ∀ W, (binOp .eql 34 (.func (.func 86) #[] #[.pointer (some ⟨f1, 0, none⟩), .pointer (some ⟨f2, 0, none⟩)]) .nilFunc).run Try.prog W = .ok (.bool false) W := fun _ => by kernel_rfl
  have hb1 : Below w.heap.size w (w.alloc (.cells #[(.func (.func 86) #[] #[.pointer (some ⟨f1, 0, none⟩), .pointer (some ⟨f2, 0, none⟩)]), (.func (.func 88) #[] #[.pointer (some ⟨f1, 0, none⟩), .pointer (some ⟨f2, 0, none⟩)])] 37)) := below_alloc (Below.refl _ _) _
  have hlo : Below (w.alloc (.cells #[(.func (.func 86) #[] #[.pointer (some ⟨f1, 0, none⟩), .pointer (some ⟨f2, 0, none⟩)]), (.func (.func 88) #[] #[.pointer (some ⟨f1, 0, none⟩), .pointer (some ⟨f2, 0, none⟩)])] 37)).heap.size (w.alloc (.cells #[(.func (.func 86) #[] #[.pointer (some ⟨f1, 0, none⟩), .pointer (some ⟨f2, 0, none⟩)]), (.func (.func 88) #[] #[.pointer (some ⟨f1, 0, none⟩), .pointer (some ⟨f2, 0, none⟩)])] 37)) ((w.alloc (.cells #[(.func (.func 86) #[] #[.pointer (some ⟨f1, 0, none⟩), .pointer (some ⟨f2, 0, none⟩)]), (.func (.func 88) #[] #[.pointer (some ⟨f1, 0, none⟩), .pointer (some ⟨f2, 0, none⟩)])] 37)).alloc (.cells #[.slice none 0 0, .int .i64 0] 121)) := below_alloc (Below.refl _ _) _
  have hO : OutOK ((w.alloc (.cells #[(.func (.func 86) #[] #[.pointer (some ⟨f1, 0, none⟩), .pointer (some ⟨f2, 0, none⟩)]), (.func (.func 88) #[] #[.pointer (some ⟨f1, 0, none⟩), .pointer (some ⟨f2, 0, none⟩)])] 37)).alloc (.cells #[.slice none 0 0, .int .i64 0] 121)) (w.alloc (.cells #[(.func (.func 86) #[] #[.pointer (some ⟨f1, 0, none⟩), .pointer (some ⟨f2, 0, none⟩)]), (.func (.func 88) #[] #[.pointer (some ⟨f1, 0, none⟩), .pointer (some ⟨f2, 0, none⟩)])] 37)).heap.size (w.alloc (.cells #[(.func (.func 86) #[] #[.pointer (some ⟨f1, 0, none⟩), .pointer (some ⟨f2, 0, none⟩)]), (.func (.func 88) #[] #[.pointer (some ⟨f1, 0, none⟩), .pointer (some ⟨f2, 0, none⟩)])] 37)).heap.size (.slice none 0 0) [] 0 := ⟨Nat.le_refl _, blk_new _ _, Kd.R_nil _ _ _ _ _⟩
  have hput := numput_run (w.alloc (.cells #[(.func (.func 86) #[] #[.pointer (some ⟨f1, 0, none⟩), .pointer (some ⟨f2, 0, none⟩)]), (.func (.func 88) #[] #[.pointer (some ⟨f1, 0, none⟩), .pointer (some ⟨f2, 0, none⟩)])] 37)).heap.size (w.alloc (.cells #[(.func (.func 86) #[] #[.pointer (some ⟨f1, 0, none⟩), .pointer (some ⟨f2, 0, none⟩)]), (.func (.func 88) #[] #[.pointer (some ⟨f1, 0, none⟩), .pointer (some ⟨f2, 0, none⟩)])] 37)).heap.size f1 f2 n most _ [] 0 x ((w.alloc (.cells #[(.func (.func 86) #[] #[.pointer (some ⟨f1, 0, none⟩), .pointer (some ⟨f2, 0, none⟩)]), (.func (.func 88) #[] #[.pointer (some ⟨f1, 0, none⟩), .pointer (some ⟨f2, 0, none⟩)])] 37)).alloc (.cells #[.slice none 0 0, .int .i64 0] 121)) ((hf.below hb1).below hlo) hO hlo.size (by simp)
  obtain ⟨s, hs⟩ : ∃ s, s = (numS ([], 0) n most x) := ⟨_, rfl⟩
  rw [← hs] at hput ⊢
  simp only [World.size_alloc] at hput
  have HP := Aside0.mk hput
  clear hput hs hlo hO hb1 hf
  go_enter Try.func24, Try.ntmps24
  go_wp2_with fail
  refine HP.out.mono ?_
  rintro r w2 ⟨rfl, hT⟩
  obtain ⟨v', hO', hk', ha', hb'⟩ := hT
  obtain ⟨b2, e2⟩ := s
  obtain ⟨A', c', hv'⟩ := Kd.R_slice hO'.own
  subst hv'
  have c0 : w2.cell? ⟨w.heap.size + 1, 0, none⟩ = some (.slice A' b2.length c') := blk_cell hO'.blk 0
  have c1 : w2.cell? ⟨w.heap.size + 1, 1, none⟩ = some (.int .i64 e2) := blk_cell hO'.blk 1
  have HO' := Aside0.mk hO'
  have HB := Aside0.mk (show Below w.heap.size w w2 from ((below_alloc (below_alloc (Below.refl _ _) _) _).trans (hb'.mono (by omega))))
  clear hO' hk' ha' hb'
  by_cases he : e2 = 0
  · subst he
    have hR := HO'.out.own
    go_wp2_with fail
    refine (clip_run A' b2.length c' b2 w2 _ _ hR).mono ?_
    rintro r w3 ⟨⟨A3, rfl, hC3⟩, rfl⟩
    have HC3 := Aside0.mk hC3
    clear hC3 hR
    go_wp2_with fail
    go_ret2
    exact ⟨A3, b2.length, rfl, HC3.out, Nat.le_refl _, HB.out⟩
  · have he1 : (e2 != 0) = true := by simpa using he
    have he2 : (e2 == 0) = false := by simpa using he
    have HE := Aside0.mk (show encR (b2, e2) = ([], e2) from if_neg he)
    clear he
    go_wp2_with fail
    go_region_held3 (fun w' => w'.cell? ⟨w.heap.size + 1, 1, none⟩ = some (.int .i64 e2)) (go_keep) (fail)
    all_goals
      go_wp2_with fail
      go_ret2
      rw [HE.out]
      exact ⟨none, 0, rfl, Kd.C_nil _ _, Nat.le_refl _, below_drew HB.out⟩
set_option maxRecDepth 100000 in
set_option maxHeartbeats 1000000 in
theorem enc_L (w : World) (bc bf c1 c2 f1 f2 n : Nat) (most : Int) (A : Option Addr) (c : Nat) (l : List Int) (hM : ManyF w bc bf c1 c2 37 (numV f1 f2)) (hf : NumF w f1 f2 n most) (hx : Kd.C (Kd.int .i64) w A l.length l) :
    Calls Try.prog 35 #[.agg #[(.func (.func 56) #[] #[.pointer (some ⟨bc, 0, none⟩), .pointer (some ⟨bf, 0, none⟩)]), (.func (.func 57) #[] #[.pointer (some ⟨bc, 0, none⟩), .pointer (some ⟨bf, 0, none⟩)])], .slice A l.length c] w fun r w' => ∃ A' c', r = .returned (.tuple #[.slice A' (encR (manyS (fun s x => numS s n most x) ([], 0) l)).1.length c', .int .i64 (encR (manyS (fun s x => numS s n most x) ([], 0) l)).2]) ∧ Kd.C (Kd.int .u8) w' A' (encR (manyS (fun s x => numS s n most x) ([], 0) l)).1.length (encR (manyS (fun s x => numS s n most x) ([], 0) l)).1 ∧ (encR (manyS (fun s x => numS s n most x) ([], 0) l)).1.length ≤ c' ∧ Below w.heap.size w w' := by
  have hnn : ∀ W, (binOp .eql 29 (.func (.func 56) #[] #[.pointer (some ⟨bc, 0, none⟩), .pointer (some ⟨bf, 0, none⟩)]) .nilFunc).run Try.prog W = .ok (.bool false) W := fun _ => by kernel_rfl
  have hb1 : Below w.heap.size w (w.alloc (.cells #[(.func (.func 56) #[] #[.pointer (some ⟨bc, 0, none⟩), .pointer (some ⟨bf, 0, none⟩)]), (.func (.func 57) #[] #[.pointer (some ⟨bc, 0, none⟩), .pointer (some ⟨bf, 0, none⟩)])] 32)) := below_alloc (Below.refl _ _) _
  have hlo : Below (w.alloc (.cells #[(.func (.func 56) #[] #[.pointer (some ⟨bc, 0, none⟩), .pointer (some ⟨bf, 0, none⟩)]), (.func (.func 57) #[] #[.pointer (some ⟨bc, 0, none⟩), .pointer (some ⟨bf, 0, none⟩)])] 32)).heap.size (w.alloc (.cells #[(.func (.func 56) #[] #[.pointer (some ⟨bc, 0, none⟩), .pointer (some ⟨bf, 0, none⟩)]), (.func (.func 57) #[] #[.pointer (some ⟨bc, 0, none⟩), .pointer (some ⟨bf, 0, none⟩)])] 32)) ((w.alloc (.cells #[(.func (.func 56) #[] #[.pointer (some ⟨bc, 0, none⟩), .pointer (some ⟨bf, 0, none⟩)]), (.func (.func 57) #[] #[.pointer (some ⟨bc, 0, none⟩), .pointer (some ⟨bf, 0, none⟩)])] 32)).alloc (.cells #[.slice none 0 0, .int .i64 0] 121)) := below_alloc (Below.refl _ _) _
  have hO : OutOK ((w.alloc (.cells #[(.func (.func 56) #[] #[.pointer (some ⟨bc, 0, none⟩), .pointer (some ⟨bf, 0, none⟩)]), (.func (.func 57) #[] #[.pointer (some ⟨bc, 0, none⟩), .pointer (some ⟨bf, 0, none⟩)])] 32)).alloc (.cells #[.slice none 0 0, .int .i64 0] 121)) (w.alloc (.cells #[(.func (.func 56) #[] #[.pointer (some ⟨bc, 0, none⟩), .pointer (some ⟨bf, 0, none⟩)]), (.func (.func 57) #[] #[.pointer (some ⟨bc, 0, none⟩), .pointer (some ⟨bf, 0, none⟩)])] 32)).heap.size (w.alloc (.cells #[(.func (.func 56) #[] #[.pointer (some ⟨bc, 0, none⟩), .pointer (some ⟨bf, 0, none⟩)]), (.func (.func 57) #[] #[.pointer (some ⟨bc, 0, none⟩), .pointer (some ⟨bf, 0, none⟩)])] 32)).heap.size (.slice none 0 0) [] 0 := ⟨Nat.le_refl _, blk_new _ _, Kd.R_nil _ _ _ _ _⟩
  have hput := manyI_put (w.alloc (.cells #[(.func (.func 56) #[] #[.pointer (some ⟨bc, 0, none⟩), .pointer (some ⟨bf, 0, none⟩)]), (.func (.func 57) #[] #[.pointer (some ⟨bc, 0, none⟩), .pointer (some ⟨bf, 0, none⟩)])] 32)) ((w.alloc (.cells #[(.func (.func 56) #[] #[.pointer (some ⟨bc, 0, none⟩), .pointer (some ⟨bf, 0, none⟩)]), (.func (.func 57) #[] #[.pointer (some ⟨bc, 0, none⟩), .pointer (some ⟨bf, 0, none⟩)])] 32)).alloc (.cells #[.slice none 0 0, .int .i64 0] 121)) (w.alloc (.cells #[(.func (.func 56) #[] #[.pointer (some ⟨bc, 0, none⟩), .pointer (some ⟨bf, 0, none⟩)]), (.func (.func 57) #[] #[.pointer (some ⟨bc, 0, none⟩), .pointer (some ⟨bf, 0, none⟩)])] 32)).heap.size _ [] 0 A c l bc bf c1 c2 f1 f2 n most (hM.below hb1) (hf.below hb1) (Kd.C_below hx hb1) hlo hO (by simp)
  obtain ⟨s, hs⟩ : ∃ s, s = (manyS (fun s x => numS s n most x) ([], 0) l) := ⟨_, rfl⟩
  rw [← hs] at hput ⊢
  simp only [World.size_alloc] at hput
  have HP := Aside0.mk hput
  clear hput hs hlo hO hb1 hM hf hx
  go_enter Try.func35, Try.ntmps35
  go_wp2_with fail
  refine HP.out.mono ?_
  rintro r w2 ⟨rfl, hT⟩
  obtain ⟨v', hO', hk', ha', hb'⟩ := hT
  obtain ⟨b2, e2⟩ := s
  obtain ⟨A', c', hv'⟩ := Kd.R_slice hO'.own
  subst hv'
  have c0 : w2.cell? ⟨w.heap.size + 1, 0, none⟩ = some (.slice A' b2.length c') := blk_cell hO'.blk 0
  have c1 : w2.cell? ⟨w.heap.size + 1, 1, none⟩ = some (.int .i64 e2) := blk_cell hO'.blk 1
  have HO' := Aside0.mk hO'
  have HB := Aside0.mk (show Below w.heap.size w w2 from ((below_alloc (below_alloc (Below.refl _ _) _) _).trans (hb'.mono (by omega))))
  clear hO' hk' ha' hb'
  by_cases he : e2 = 0
  · subst he
    have hR := HO'.out.own
    go_wp2_with fail
    refine (clip_run A' b2.length c' b2 w2 _ _ hR).mono ?_
    rintro r w3 ⟨⟨A3, rfl, hC3⟩, rfl⟩
    have HC3 := Aside0.mk hC3
    clear hC3 hR
    go_wp2_with fail
    go_ret2
    exact ⟨A3, b2.length, rfl, HC3.out, Nat.le_refl _, HB.out⟩
  · have he1 : (e2 != 0) = true := by simpa using he
    have he2 : (e2 == 0) = false := by simpa using he
    have HE := Aside0.mk (show encR (b2, e2) = ([], e2) from if_neg he)
    clear he
    go_wp2_with fail
    go_region_held3 (fun w' => w'.cell? ⟨w.heap.size + 1, 1, none⟩ = some (.int .i64 e2)) (go_keep) (fail)
    all_goals
      go_wp2_with fail
      go_ret2
      rw [HE.out]
      exact ⟨none, 0, rfl, Kd.C_nil _ _, Nat.le_refl _, below_drew HB.out⟩
set_option maxRecDepth 100000 in
set_option maxHeartbeats 1000000 in
theorem enc_LL (w : World) (bc bf c1 c2 dc df d1 d2 f1 f2 n : Nat) (most : Int) (A : Option Addr) (c : Nat) (l : List (List Int)) (hM : ManyF w bc bf c1 c2 32 (manyV dc df)) (hN : ManyF w dc df d1 d2 37 (numV f1 f2)) (hf : NumF w f1 f2 n most) (hx : Kd.C (Kd.slice 3 (Kd.int .i64)) w A l.length l) :
    Calls Try.prog 15 #[.agg #[(.func (.func 54) #[] #[.pointer (some ⟨bc, 0, none⟩), .pointer (some ⟨bf, 0, none⟩)]), (.func (.func 55) #[] #[.pointer (some ⟨bc, 0, none⟩), .pointer (some ⟨bf, 0, none⟩)])], .slice A l.length c] w fun r w' => ∃ A' c', r = .returned (.tuple #[.slice A' (encR (manyS (manyS (fun s x => numS s n most x)) ([], 0) l)).1.length c', .int .i64 (encR (manyS (manyS (fun s x => numS s n most x)) ([], 0) l)).2]) ∧ Kd.C (Kd.int .u8) w' A' (encR (manyS (manyS (fun s x => numS s n most x)) ([], 0) l)).1.length (encR (manyS (manyS (fun s x => numS s n most x)) ([], 0) l)).1 ∧ (encR (manyS (manyS (fun s x => numS s n most x)) ([], 0) l)).1.length ≤ c' ∧ Below w.heap.size w w' := by
  have hnn : ∀ W, (binOp .eql 23 (.func (.func 54) #[] #[.pointer (some ⟨bc, 0, none⟩), .pointer (some ⟨bf, 0, none⟩)]) .nilFunc).run Try.prog W = .ok (.bool false) W := fun _ => by kernel_rfl
  have hb1 : Below w.heap.size w (w.alloc (.cells #[(.func (.func 54) #[] #[.pointer (some ⟨bc, 0, none⟩), .pointer (some ⟨bf, 0, none⟩)]), (.func (.func 55) #[] #[.pointer (some ⟨bc, 0, none⟩), .pointer (some ⟨bf, 0, none⟩)])] 26)) := below_alloc (Below.refl _ _) _
  have hlo : Below (w.alloc (.cells #[(.func (.func 54) #[] #[.pointer (some ⟨bc, 0, none⟩), .pointer (some ⟨bf, 0, none⟩)]), (.func (.func 55) #[] #[.pointer (some ⟨bc, 0, none⟩), .pointer (some ⟨bf, 0, none⟩)])] 26)).heap.size (w.alloc (.cells #[(.func (.func 54) #[] #[.pointer (some ⟨bc, 0, none⟩), .pointer (some ⟨bf, 0, none⟩)]), (.func (.func 55) #[] #[.pointer (some ⟨bc, 0, none⟩), .pointer (some ⟨bf, 0, none⟩)])] 26)) ((w.alloc (.cells #[(.func (.func 54) #[] #[.pointer (some ⟨bc, 0, none⟩), .pointer (some ⟨bf, 0, none⟩)]), (.func (.func 55) #[] #[.pointer (some ⟨bc, 0, none⟩), .pointer (some ⟨bf, 0, none⟩)])] 26)).alloc (.cells #[.slice none 0 0, .int .i64 0] 121)) := below_alloc (Below.refl _ _) _
  have hO : OutOK ((w.alloc (.cells #[(.func (.func 54) #[] #[.pointer (some ⟨bc, 0, none⟩), .pointer (some ⟨bf, 0, none⟩)]), (.func (.func 55) #[] #[.pointer (some ⟨bc, 0, none⟩), .pointer (some ⟨bf, 0, none⟩)])] 26)).alloc (.cells #[.slice none 0 0, .int .i64 0] 121)) (w.alloc (.cells #[(.func (.func 54) #[] #[.pointer (some ⟨bc, 0, none⟩), .pointer (some ⟨bf, 0, none⟩)]), (.func (.func 55) #[] #[.pointer (some ⟨bc, 0, none⟩), .pointer (some ⟨bf, 0, none⟩)])] 26)).heap.size (w.alloc (.cells #[(.func (.func 54) #[] #[.pointer (some ⟨bc, 0, none⟩), .pointer (some ⟨bf, 0, none⟩)]), (.func (.func 55) #[] #[.pointer (some ⟨bc, 0, none⟩), .pointer (some ⟨bf, 0, none⟩)])] 26)).heap.size (.slice none 0 0) [] 0 := ⟨Nat.le_refl _, blk_new _ _, Kd.R_nil _ _ _ _ _⟩
  have hput := manyJ_put (w.alloc (.cells #[(.func (.func 54) #[] #[.pointer (some ⟨bc, 0, none⟩), .pointer (some ⟨bf, 0, none⟩)]), (.func (.func 55) #[] #[.pointer (some ⟨bc, 0, none⟩), .pointer (some ⟨bf, 0, none⟩)])] 26)) ((w.alloc (.cells #[(.func (.func 54) #[] #[.pointer (some ⟨bc, 0, none⟩), .pointer (some ⟨bf, 0, none⟩)]), (.func (.func 55) #[] #[.pointer (some ⟨bc, 0, none⟩), .pointer (some ⟨bf, 0, none⟩)])] 26)).alloc (.cells #[.slice none 0 0, .int .i64 0] 121)) (w.alloc (.cells #[(.func (.func 54) #[] #[.pointer (some ⟨bc, 0, none⟩), .pointer (some ⟨bf, 0, none⟩)]), (.func (.func 55) #[] #[.pointer (some ⟨bc, 0, none⟩), .pointer (some ⟨bf, 0, none⟩)])] 26)).heap.size _ [] 0 A c l bc bf c1 c2 dc df d1 d2 f1 f2 n most (hM.below hb1) ⟨hN.below hb1, hf.below hb1⟩ (Kd.C_below hx hb1) hlo hO (by simp)
  obtain ⟨s, hs⟩ : ∃ s, s = (manyS (manyS (fun s x => numS s n most x)) ([], 0) l) := ⟨_, rfl⟩
  rw [← hs] at hput ⊢
  simp only [World.size_alloc] at hput
  have HP := Aside0.mk hput
  clear hput hs hlo hO hb1 hM hN hf hx
  go_enter Try.func15, Try.ntmps15
  go_wp2_with fail
  refine HP.out.mono ?_
  rintro r w2 ⟨rfl, hT⟩
  obtain ⟨v', hO', hk', ha', hb'⟩ := hT
  obtain ⟨b2, e2⟩ := s
  obtain ⟨A', c', hv'⟩ := Kd.R_slice hO'.own
  subst hv'
  have c0 : w2.cell? ⟨w.heap.size + 1, 0, none⟩ = some (.slice A' b2.length c') := blk_cell hO'.blk 0
  have c1 : w2.cell? ⟨w.heap.size + 1, 1, none⟩ = some (.int .i64 e2) := blk_cell hO'.blk 1
  have HO' := Aside0.mk hO'
  have HB := Aside0.mk (show Below w.heap.size w w2 from ((below_alloc (below_alloc (Below.refl _ _) _) _).trans (hb'.mono (by omega))))
  clear hO' hk' ha' hb'
  by_cases he : e2 = 0
  · subst he
    have hR := HO'.out.own
    go_wp2_with fail
    refine (clip_run A' b2.length c' b2 w2 _ _ hR).mono ?_
    rintro r w3 ⟨⟨A3, rfl, hC3⟩, rfl⟩
    have HC3 := Aside0.mk hC3
    clear hC3 hR
    go_wp2_with fail
    go_ret2
    exact ⟨A3, b2.length, rfl, HC3.out, Nat.le_refl _, HB.out⟩
  · have he1 : (e2 != 0) = true := by simpa using he
    have he2 : (e2 == 0) = false := by simpa using he
    have HE := Aside0.mk (show encR (b2, e2) = ([], e2) from if_neg he)
    clear he
    go_wp2_with fail
    go_region_held3 (fun w' => w'.cell? ⟨w.heap.size + 1, 1, none⟩ = some (.int .i64 e2)) (go_keep) (fail)
    all_goals
      go_wp2_with fail
      go_ret2
      rw [HE.out]
      exact ⟨none, 0, rfl, Kd.C_nil _ _, Nat.le_refl _, below_drew HB.out⟩
set_option maxRecDepth 100000 in
set_option maxHeartbeats 1000000 in
theorem enc_P (w : World) (bc bf c1 c2 ba bb a1 a2 n : Nat) (most : Int) (bk e1 e2 : Nat) (A : Option Addr) (c : Nat) (l : List PairS) (hM : ManyF w bc bf c1 c2 109 (bothV ba bb)) (hf : BothF w ba bb a1 a2 n most bk e1 e2) (hx : Kd.C kP w A l.length l) :
    Calls Try.prog 48 #[.agg #[(.func (.func 81) #[] #[.pointer (some ⟨bc, 0, none⟩), .pointer (some ⟨bf, 0, none⟩)]), (.func (.func 82) #[] #[.pointer (some ⟨bc, 0, none⟩), .pointer (some ⟨bf, 0, none⟩)])], .slice A l.length c] w fun r w' => ∃ A' c', r = .returned (.tuple #[.slice A' (encR (manyS (bothS n most) ([], 0) l)).1.length c', .int .i64 (encR (manyS (bothS n most) ([], 0) l)).2]) ∧ Kd.C (Kd.int .u8) w' A' (encR (manyS (bothS n most) ([], 0) l)).1.length (encR (manyS (bothS n most) ([], 0) l)).1 ∧ (encR (manyS (bothS n most) ([], 0) l)).1.length ≤ c' ∧ Below w.heap.size w w' := by
  have hnn : ∀ W, (binOp .eql 101 (.func (.func 81) #[] #[.pointer (some ⟨bc, 0, none⟩), .pointer (some ⟨bf, 0, none⟩)]) .nilFunc).run Try.prog W = .ok (.bool false) W := fun _ => by kernel_rfl
  have hb1 : Below w.heap.size w (w.alloc (.cells #[(.func (.func 81) #[] #[.pointer (some ⟨bc, 0, none⟩), .pointer (some ⟨bf, 0, none⟩)]), (.func (.func 82) #[] #[.pointer (some ⟨bc, 0, none⟩), .pointer (some ⟨bf, 0, none⟩)])] 104)) := below_alloc (Below.refl _ _) _
  have hlo : Below (w.alloc (.cells #[(.func (.func 81) #[] #[.pointer (some ⟨bc, 0, none⟩), .pointer (some ⟨bf, 0, none⟩)]), (.func (.func 82) #[] #[.pointer (some ⟨bc, 0, none⟩), .pointer (some ⟨bf, 0, none⟩)])] 104)).heap.size (w.alloc (.cells #[(.func (.func 81) #[] #[.pointer (some ⟨bc, 0, none⟩), .pointer (some ⟨bf, 0, none⟩)]), (.func (.func 82) #[] #[.pointer (some ⟨bc, 0, none⟩), .pointer (some ⟨bf, 0, none⟩)])] 104)) ((w.alloc (.cells #[(.func (.func 81) #[] #[.pointer (some ⟨bc, 0, none⟩), .pointer (some ⟨bf, 0, none⟩)]), (.func (.func 82) #[] #[.pointer (some ⟨bc, 0, none⟩), .pointer (some ⟨bf, 0, none⟩)])] 104)).alloc (.cells #[.slice none 0 0, .int .i64 0] 121)) := below_alloc (Below.refl _ _) _
  have hO : OutOK ((w.alloc (.cells #[(.func (.func 81) #[] #[.pointer (some ⟨bc, 0, none⟩), .pointer (some ⟨bf, 0, none⟩)]), (.func (.func 82) #[] #[.pointer (some ⟨bc, 0, none⟩), .pointer (some ⟨bf, 0, none⟩)])] 104)).alloc (.cells #[.slice none 0 0, .int .i64 0] 121)) (w.alloc (.cells #[(.func (.func 81) #[] #[.pointer (some ⟨bc, 0, none⟩), .pointer (some ⟨bf, 0, none⟩)]), (.func (.func 82) #[] #[.pointer (some ⟨bc, 0, none⟩), .pointer (some ⟨bf, 0, none⟩)])] 104)).heap.size (w.alloc (.cells #[(.func (.func 81) #[] #[.pointer (some ⟨bc, 0, none⟩), .pointer (some ⟨bf, 0, none⟩)]), (.func (.func 82) #[] #[.pointer (some ⟨bc, 0, none⟩), .pointer (some ⟨bf, 0, none⟩)])] 104)).heap.size (.slice none 0 0) [] 0 := ⟨Nat.le_refl _, blk_new _ _, Kd.R_nil _ _ _ _ _⟩
  have hput := manyP_put (w.alloc (.cells #[(.func (.func 81) #[] #[.pointer (some ⟨bc, 0, none⟩), .pointer (some ⟨bf, 0, none⟩)]), (.func (.func 82) #[] #[.pointer (some ⟨bc, 0, none⟩), .pointer (some ⟨bf, 0, none⟩)])] 104)) ((w.alloc (.cells #[(.func (.func 81) #[] #[.pointer (some ⟨bc, 0, none⟩), .pointer (some ⟨bf, 0, none⟩)]), (.func (.func 82) #[] #[.pointer (some ⟨bc, 0, none⟩), .pointer (some ⟨bf, 0, none⟩)])] 104)).alloc (.cells #[.slice none 0 0, .int .i64 0] 121)) (w.alloc (.cells #[(.func (.func 81) #[] #[.pointer (some ⟨bc, 0, none⟩), .pointer (some ⟨bf, 0, none⟩)]), (.func (.func 82) #[] #[.pointer (some ⟨bc, 0, none⟩), .pointer (some ⟨bf, 0, none⟩)])] 104)).heap.size _ [] 0 A c l bc bf c1 c2 ba bb a1 a2 n most bk e1 e2 (hM.below hb1) (hf.below hb1) (Kd.C_below hx hb1) hlo hO (by simp)
  obtain ⟨s, hs⟩ : ∃ s, s = (manyS (bothS n most) ([], 0) l) := ⟨_, rfl⟩
  rw [← hs] at hput ⊢
  simp only [World.size_alloc] at hput
  have HP := Aside0.mk hput
  clear hput hs hlo hO hb1 hM hf hx
  go_enter Try.func48, Try.ntmps48
  go_wp2_with fail
  refine HP.out.mono ?_
  rintro r w2 ⟨rfl, hT⟩
  obtain ⟨v', hO', hk', ha', hb'⟩ := hT
  obtain ⟨b2, e2⟩ := s
  obtain ⟨A', c', hv'⟩ := Kd.R_slice hO'.own
  subst hv'
  have c0 : w2.cell? ⟨w.heap.size + 1, 0, none⟩ = some (.slice A' b2.length c') := blk_cell hO'.blk 0
  have c1 : w2.cell? ⟨w.heap.size + 1, 1, none⟩ = some (.int .i64 e2) := blk_cell hO'.blk 1
  have HO' := Aside0.mk hO'
  have HB := Aside0.mk (show Below w.heap.size w w2 from ((below_alloc (below_alloc (Below.refl _ _) _) _).trans (hb'.mono (by omega))))
  clear hO' hk' ha' hb'
  by_cases he : e2 = 0
  · subst he
    have hR := HO'.out.own
    go_wp2_with fail
    refine (clip_run A' b2.length c' b2 w2 _ _ hR).mono ?_
    rintro r w3 ⟨⟨A3, rfl, hC3⟩, rfl⟩
    have HC3 := Aside0.mk hC3
    clear hC3 hR
    go_wp2_with fail
    go_ret2
    exact ⟨A3, b2.length, rfl, HC3.out, Nat.le_refl _, HB.out⟩
  · have he1 : (e2 != 0) = true := by simpa using he
    have he2 : (e2 == 0) = false := by simpa using he
    have HE := Aside0.mk (show encR (b2, e2) = ([], e2) from if_neg he)
    clear he
    go_wp2_with fail
    go_region_held3 (fun w' => w'.cell? ⟨w.heap.size + 1, 1, none⟩ = some (.int .i64 e2)) (go_keep) (fail)
    all_goals
      go_wp2_with fail
      go_ret2
      rw [HE.out]
      exact ⟨none, 0, rfl, Kd.C_nil _ _, Nat.le_refl _, below_drew HB.out⟩
set_option maxRecDepth 100000 in
set_option maxHeartbeats 1000000 in
theorem enc_B (w : World) (bb c1 c2 : Nat) (A : Option Addr) (c : Nat) (l : List Int) (hf : BlobF w bb c1 c2) (hx : Kd.C (Kd.int .u8) w A l.length l) :
    Calls Try.prog 38 #[.agg #[(.func (.func 69) #[] #[.pointer (some ⟨bb, 0, none⟩)]), (.func (.func 71) #[] #[.pointer (some ⟨bb, 0, none⟩)])], .slice A l.length c] w fun r w' => ∃ A' c', r = .returned (.tuple #[.slice A' (encR (blobS ([], 0) l)).1.length c', .int .i64 (encR (blobS ([], 0) l)).2]) ∧ Kd.C (Kd.int .u8) w' A' (encR (blobS ([], 0) l)).1.length (encR (blobS ([], 0) l)).1 ∧ (encR (blobS ([], 0) l)).1.length ≤ c' ∧ Below w.heap.size w w' := by
  have hnn : ∀ W, (binOp .eql 83 (.func (.func 69) #[] #[.pointer (some ⟨bb, 0, none⟩)]) .nilFunc).run Try.prog W = .ok (.bool false) W := fun _ => by kernel_rfl
  have hb1 : Below w.heap.size w (w.alloc (.cells #[(.func (.func 69) #[] #[.pointer (some ⟨bb, 0, none⟩)]), (.func (.func 71) #[] #[.pointer (some ⟨bb, 0, none⟩)])] 86)) := below_alloc (Below.refl _ _) _
  have hlo : Below (w.alloc (.cells #[(.func (.func 69) #[] #[.pointer (some ⟨bb, 0, none⟩)]), (.func (.func 71) #[] #[.pointer (some ⟨bb, 0, none⟩)])] 86)).heap.size (w.alloc (.cells #[(.func (.func 69) #[] #[.pointer (some ⟨bb, 0, none⟩)]), (.func (.func 71) #[] #[.pointer (some ⟨bb, 0, none⟩)])] 86)) ((w.alloc (.cells #[(.func (.func 69) #[] #[.pointer (some ⟨bb, 0, none⟩)]), (.func (.func 71) #[] #[.pointer (some ⟨bb, 0, none⟩)])] 86)).alloc (.cells #[.slice none 0 0, .int .i64 0] 121)) := below_alloc (Below.refl _ _) _
  have hO : OutOK ((w.alloc (.cells #[(.func (.func 69) #[] #[.pointer (some ⟨bb, 0, none⟩)]), (.func (.func 71) #[] #[.pointer (some ⟨bb, 0, none⟩)])] 86)).alloc (.cells #[.slice none 0 0, .int .i64 0] 121)) (w.alloc (.cells #[(.func (.func 69) #[] #[.pointer (some ⟨bb, 0, none⟩)]), (.func (.func 71) #[] #[.pointer (some ⟨bb, 0, none⟩)])] 86)).heap.size (w.alloc (.cells #[(.func (.func 69) #[] #[.pointer (some ⟨bb, 0, none⟩)]), (.func (.func 71) #[] #[.pointer (some ⟨bb, 0, none⟩)])] 86)).heap.size (.slice none 0 0) [] 0 := ⟨Nat.le_refl _, blk_new _ _, Kd.R_nil _ _ _ _ _⟩
  have hput := blob_put (w.alloc (.cells #[(.func (.func 69) #[] #[.pointer (some ⟨bb, 0, none⟩)]), (.func (.func 71) #[] #[.pointer (some ⟨bb, 0, none⟩)])] 86)).heap.size (w.alloc (.cells #[(.func (.func 69) #[] #[.pointer (some ⟨bb, 0, none⟩)]), (.func (.func 71) #[] #[.pointer (some ⟨bb, 0, none⟩)])] 86)).heap.size ((w.alloc (.cells #[(.func (.func 69) #[] #[.pointer (some ⟨bb, 0, none⟩)]), (.func (.func 71) #[] #[.pointer (some ⟨bb, 0, none⟩)])] 86)).alloc (.cells #[.slice none 0 0, .int .i64 0] 121)) _ [] 0 A c l bb c1 c2 ((hf.below hb1).below hlo) (Kd.C_below (Kd.C_below hx hb1) hlo) (far_w0 (Kd.C_below hx hb1) hO) hO hlo.size (by simp)
  obtain ⟨s, hs⟩ : ∃ s, s = (blobS ([], 0) l) := ⟨_, rfl⟩
  rw [← hs] at hput ⊢
  simp only [World.size_alloc] at hput
  have HP := Aside0.mk hput
  clear hput hs hlo hO hb1 hf hx
  go_enter Try.func38, Try.ntmps38
  go_wp2_with fail
  refine HP.out.mono ?_
  rintro r w2 ⟨rfl, hT⟩
  obtain ⟨v', hO', hk', ha', hb'⟩ := hT
  obtain ⟨b2, e2⟩ := s
  obtain ⟨A', c', hv'⟩ := Kd.R_slice hO'.own
  subst hv'
  have c0 : w2.cell? ⟨w.heap.size + 1, 0, none⟩ = some (.slice A' b2.length c') := blk_cell hO'.blk 0
  have c1 : w2.cell? ⟨w.heap.size + 1, 1, none⟩ = some (.int .i64 e2) := blk_cell hO'.blk 1
  have HO' := Aside0.mk hO'
  have HB := Aside0.mk (show Below w.heap.size w w2 from ((below_alloc (below_alloc (Below.refl _ _) _) _).trans (hb'.mono (by omega))))
  clear hO' hk' ha' hb'
  by_cases he : e2 = 0
  · subst he
    have hR := HO'.out.own
    go_wp2_with fail
    refine (clip_run A' b2.length c' b2 w2 _ _ hR).mono ?_
    rintro r w3 ⟨⟨A3, rfl, hC3⟩, rfl⟩
    have HC3 := Aside0.mk hC3
    clear hC3 hR
    go_wp2_with fail
    go_ret2
    exact ⟨A3, b2.length, rfl, HC3.out, Nat.le_refl _, HB.out⟩
  · have he1 : (e2 != 0) = true := by simpa using he
    have he2 : (e2 == 0) = false := by simpa using he
    have HE := Aside0.mk (show encR (b2, e2) = ([], e2) from if_neg he)
    clear he
    go_wp2_with fail
    go_region_held3 (fun w' => w'.cell? ⟨w.heap.size + 1, 1, none⟩ = some (.int .i64 e2)) (go_keep) (fail)
    all_goals
      go_wp2_with fail
      go_ret2
      rw [HE.out]
      exact ⟨none, 0, rfl, Kd.C_nil _ _, Nat.le_refl _, below_drew HB.out⟩
set_option maxRecDepth 100000 in
set_option maxHeartbeats 1000000 in
theorem enc_F (w : World) (bm bn : Nat) (n : Int) (A : Option Addr) (c : Nat) (l : List Int) (hf : FixF w bm bn n) (hx : Kd.C (Kd.int .u8) w A l.length l) :
    Calls Try.prog 38 #[.agg #[(.func (.func 79) #[] #[.pointer (some ⟨bm, 0, none⟩), .pointer (some ⟨bn, 0, none⟩)]), (.func (.func 80) #[] #[.pointer (some ⟨bm, 0, none⟩), .pointer (some ⟨bn, 0, none⟩)])], .slice A l.length c] w fun r w' => ∃ A' c', r = .returned (.tuple #[.slice A' (encR (fixS n ([], 0) l)).1.length c', .int .i64 (encR (fixS n ([], 0) l)).2]) ∧ Kd.C (Kd.int .u8) w' A' (encR (fixS n ([], 0) l)).1.length (encR (fixS n ([], 0) l)).1 ∧ (encR (fixS n ([], 0) l)).1.length ≤ c' ∧ Below w.heap.size w w' := by
  have hnn : ∀ W, (binOp .eql 83 (.func (.func 79) #[] #[.pointer (some ⟨bm, 0, none⟩), .pointer (some ⟨bn, 0, none⟩)]) .nilFunc).run Try.prog W = .ok (.bool false) W := fun _ => by kernel_rfl
  have hb1 : Below w.heap.size w (w.alloc (.cells #[(.func (.func 79) #[] #[.pointer (some ⟨bm, 0, none⟩), .pointer (some ⟨bn, 0, none⟩)]), (.func (.func 80) #[] #[.pointer (some ⟨bm, 0, none⟩), .pointer (some ⟨bn, 0, none⟩)])] 86)) := below_alloc (Below.refl _ _) _
  have hlo : Below (w.alloc (.cells #[(.func (.func 79) #[] #[.pointer (some ⟨bm, 0, none⟩), .pointer (some ⟨bn, 0, none⟩)]), (.func (.func 80) #[] #[.pointer (some ⟨bm, 0, none⟩), .pointer (some ⟨bn, 0, none⟩)])] 86)).heap.size (w.alloc (.cells #[(.func (.func 79) #[] #[.pointer (some ⟨bm, 0, none⟩), .pointer (some ⟨bn, 0, none⟩)]), (.func (.func 80) #[] #[.pointer (some ⟨bm, 0, none⟩), .pointer (some ⟨bn, 0, none⟩)])] 86)) ((w.alloc (.cells #[(.func (.func 79) #[] #[.pointer (some ⟨bm, 0, none⟩), .pointer (some ⟨bn, 0, none⟩)]), (.func (.func 80) #[] #[.pointer (some ⟨bm, 0, none⟩), .pointer (some ⟨bn, 0, none⟩)])] 86)).alloc (.cells #[.slice none 0 0, .int .i64 0] 121)) := below_alloc (Below.refl _ _) _
  have hO : OutOK ((w.alloc (.cells #[(.func (.func 79) #[] #[.pointer (some ⟨bm, 0, none⟩), .pointer (some ⟨bn, 0, none⟩)]), (.func (.func 80) #[] #[.pointer (some ⟨bm, 0, none⟩), .pointer (some ⟨bn, 0, none⟩)])] 86)).alloc (.cells #[.slice none 0 0, .int .i64 0] 121)) (w.alloc (.cells #[(.func (.func 79) #[] #[.pointer (some ⟨bm, 0, none⟩), .pointer (some ⟨bn, 0, none⟩)]), (.func (.func 80) #[] #[.pointer (some ⟨bm, 0, none⟩), .pointer (some ⟨bn, 0, none⟩)])] 86)).heap.size (w.alloc (.cells #[(.func (.func 79) #[] #[.pointer (some ⟨bm, 0, none⟩), .pointer (some ⟨bn, 0, none⟩)]), (.func (.func 80) #[] #[.pointer (some ⟨bm, 0, none⟩), .pointer (some ⟨bn, 0, none⟩)])] 86)).heap.size (.slice none 0 0) [] 0 := ⟨Nat.le_refl _, blk_new _ _, Kd.R_nil _ _ _ _ _⟩
  have hput := fix_put (w.alloc (.cells #[(.func (.func 79) #[] #[.pointer (some ⟨bm, 0, none⟩), .pointer (some ⟨bn, 0, none⟩)]), (.func (.func 80) #[] #[.pointer (some ⟨bm, 0, none⟩), .pointer (some ⟨bn, 0, none⟩)])] 86)).heap.size (w.alloc (.cells #[(.func (.func 79) #[] #[.pointer (some ⟨bm, 0, none⟩), .pointer (some ⟨bn, 0, none⟩)]), (.func (.func 80) #[] #[.pointer (some ⟨bm, 0, none⟩), .pointer (some ⟨bn, 0, none⟩)])] 86)).heap.size ((w.alloc (.cells #[(.func (.func 79) #[] #[.pointer (some ⟨bm, 0, none⟩), .pointer (some ⟨bn, 0, none⟩)]), (.func (.func 80) #[] #[.pointer (some ⟨bm, 0, none⟩), .pointer (some ⟨bn, 0, none⟩)])] 86)).alloc (.cells #[.slice none 0 0, .int .i64 0] 121)) _ [] 0 A c l bm bn n ((hf.below hb1).below hlo) (Kd.C_below (Kd.C_below hx hb1) hlo) (far_w0 (Kd.C_below hx hb1) hO) hO hlo.size (by simp)
  obtain ⟨s, hs⟩ : ∃ s, s = (fixS n ([], 0) l) := ⟨_, rfl⟩
  rw [← hs] at hput ⊢
  simp only [World.size_alloc] at hput
  have HP := Aside0.mk hput
  clear hput hs hlo hO hb1 hf hx
  go_enter Try.func38, Try.ntmps38
  go_wp2_with fail
  refine HP.out.mono ?_
  rintro r w2 ⟨rfl, hT⟩
  obtain ⟨v', hO', hk', ha', hb'⟩ := hT
  obtain ⟨b2, e2⟩ := s
  obtain ⟨A', c', hv'⟩ := Kd.R_slice hO'.own
  subst hv'
  have c0 : w2.cell? ⟨w.heap.size + 1, 0, none⟩ = some (.slice A' b2.length c') := blk_cell hO'.blk 0
  have c1 : w2.cell? ⟨w.heap.size + 1, 1, none⟩ = some (.int .i64 e2) := blk_cell hO'.blk 1
  have HO' := Aside0.mk hO'
  have HB := Aside0.mk (show Below w.heap.size w w2 from ((below_alloc (below_alloc (Below.refl _ _) _) _).trans (hb'.mono (by omega))))
  clear hO' hk' ha' hb'
  by_cases he : e2 = 0
  · subst he
    have hR := HO'.out.own
    go_wp2_with fail
    refine (clip_run A' b2.length c' b2 w2 _ _ hR).mono ?_
    rintro r w3 ⟨⟨A3, rfl, hC3⟩, rfl⟩
    have HC3 := Aside0.mk hC3
    clear hC3 hR
    go_wp2_with fail
    go_ret2
    exact ⟨A3, b2.length, rfl, HC3.out, Nat.le_refl _, HB.out⟩
  · have he1 : (e2 != 0) = true := by simpa using he
    have he2 : (e2 == 0) = false := by simpa using he
    have HE := Aside0.mk (show encR (b2, e2) = ([], e2) from if_neg he)
    clear he
    go_wp2_with fail
    go_region_held3 (fun w' => w'.cell? ⟨w.heap.size + 1, 1, none⟩ = some (.int .i64 e2)) (go_keep) (fail)
    all_goals
      go_wp2_with fail
      go_ret2
      rw [HE.out]
      exact ⟨none, 0, rfl, Kd.C_nil _ _, Nat.le_refl _, below_drew HB.out⟩
set_option maxRecDepth 100000 in
set_option maxHeartbeats 1000000 in
theorem enc_S (w : World) (bf bt bk bb c1 c2 : Nat) (x : ByteArray) (hf : TextF w bf bt bk bb c1 c2) (hx : x.size ≤ 140737488355328) :
    Calls Try.prog 40 #[.agg #[(.func (.func 93) #[] #[.pointer (some ⟨bf, 0, none⟩), .pointer (some ⟨bt, 0, none⟩)]), (.func (.func 94) #[] #[.pointer (some ⟨bk, 0, none⟩), .pointer (some ⟨bf, 0, none⟩)])], .string x] w fun r w' => ∃ A' c', r = .returned (.tuple #[.slice A' (encR (textS ([], 0) x)).1.length c', .int .i64 (encR (textS ([], 0) x)).2]) ∧ Kd.C (Kd.int .u8) w' A' (encR (textS ([], 0) x)).1.length (encR (textS ([], 0) x)).1 ∧ (encR (textS ([], 0) x)).1.length ≤ c' ∧ Below w.heap.size w w' := by
  have hnn : ∀ W, (binOp .eql 89 (.func (.func 93) #[] #[.pointer (some ⟨bf, 0, none⟩), .pointer (some ⟨bt, 0, none⟩)]) .nilFunc).run Try.prog W = .ok (.bool false) W := fun _ => by kernel_rfl
  have hb1 : Below w.heap.size w (w.alloc (.cells #[(.func (.func 93) #[] #[.pointer (some ⟨bf, 0, none⟩), .pointer (some ⟨bt, 0, none⟩)]), (.func (.func 94) #[] #[.pointer (some ⟨bk, 0, none⟩), .pointer (some ⟨bf, 0, none⟩)])] 92)) := below_alloc (Below.refl _ _) _
  have hlo : Below (w.alloc (.cells #[(.func (.func 93) #[] #[.pointer (some ⟨bf, 0, none⟩), .pointer (some ⟨bt, 0, none⟩)]), (.func (.func 94) #[] #[.pointer (some ⟨bk, 0, none⟩), .pointer (some ⟨bf, 0, none⟩)])] 92)).heap.size (w.alloc (.cells #[(.func (.func 93) #[] #[.pointer (some ⟨bf, 0, none⟩), .pointer (some ⟨bt, 0, none⟩)]), (.func (.func 94) #[] #[.pointer (some ⟨bk, 0, none⟩), .pointer (some ⟨bf, 0, none⟩)])] 92)) ((w.alloc (.cells #[(.func (.func 93) #[] #[.pointer (some ⟨bf, 0, none⟩), .pointer (some ⟨bt, 0, none⟩)]), (.func (.func 94) #[] #[.pointer (some ⟨bk, 0, none⟩), .pointer (some ⟨bf, 0, none⟩)])] 92)).alloc (.cells #[.slice none 0 0, .int .i64 0] 121)) := below_alloc (Below.refl _ _) _
  have hO : OutOK ((w.alloc (.cells #[(.func (.func 93) #[] #[.pointer (some ⟨bf, 0, none⟩), .pointer (some ⟨bt, 0, none⟩)]), (.func (.func 94) #[] #[.pointer (some ⟨bk, 0, none⟩), .pointer (some ⟨bf, 0, none⟩)])] 92)).alloc (.cells #[.slice none 0 0, .int .i64 0] 121)) (w.alloc (.cells #[(.func (.func 93) #[] #[.pointer (some ⟨bf, 0, none⟩), .pointer (some ⟨bt, 0, none⟩)]), (.func (.func 94) #[] #[.pointer (some ⟨bk, 0, none⟩), .pointer (some ⟨bf, 0, none⟩)])] 92)).heap.size (w.alloc (.cells #[(.func (.func 93) #[] #[.pointer (some ⟨bf, 0, none⟩), .pointer (some ⟨bt, 0, none⟩)]), (.func (.func 94) #[] #[.pointer (some ⟨bk, 0, none⟩), .pointer (some ⟨bf, 0, none⟩)])] 92)).heap.size (.slice none 0 0) [] 0 := ⟨Nat.le_refl _, blk_new _ _, Kd.R_nil _ _ _ _ _⟩
  have hput := text_put (w.alloc (.cells #[(.func (.func 93) #[] #[.pointer (some ⟨bf, 0, none⟩), .pointer (some ⟨bt, 0, none⟩)]), (.func (.func 94) #[] #[.pointer (some ⟨bk, 0, none⟩), .pointer (some ⟨bf, 0, none⟩)])] 92)) ((w.alloc (.cells #[(.func (.func 93) #[] #[.pointer (some ⟨bf, 0, none⟩), .pointer (some ⟨bt, 0, none⟩)]), (.func (.func 94) #[] #[.pointer (some ⟨bk, 0, none⟩), .pointer (some ⟨bf, 0, none⟩)])] 92)).alloc (.cells #[.slice none 0 0, .int .i64 0] 121)) (w.alloc (.cells #[(.func (.func 93) #[] #[.pointer (some ⟨bf, 0, none⟩), .pointer (some ⟨bt, 0, none⟩)]), (.func (.func 94) #[] #[.pointer (some ⟨bk, 0, none⟩), .pointer (some ⟨bf, 0, none⟩)])] 92)).heap.size _ [] 0 x hx bf bt bk bb c1 c2 (hf.below hb1) hlo hO (by simp)
  obtain ⟨s, hs⟩ : ∃ s, s = (textS ([], 0) x) := ⟨_, rfl⟩
  rw [← hs] at hput ⊢
  simp only [World.size_alloc] at hput
  have HP := Aside0.mk hput
  clear hput hs hlo hO hb1 hf hx
  go_enter Try.func40, Try.ntmps40
  go_wp2_with fail
  refine HP.out.mono ?_
  rintro r w2 ⟨rfl, hT⟩
  obtain ⟨v', hO', hk', ha', hb'⟩ := hT
  obtain ⟨b2, e2⟩ := s
  obtain ⟨A', c', hv'⟩ := Kd.R_slice hO'.own
  subst hv'
  have c0 : w2.cell? ⟨w.heap.size + 1, 0, none⟩ = some (.slice A' b2.length c') := blk_cell hO'.blk 0
  have c1 : w2.cell? ⟨w.heap.size + 1, 1, none⟩ = some (.int .i64 e2) := blk_cell hO'.blk 1
  have HO' := Aside0.mk hO'
  have HB := Aside0.mk (show Below w.heap.size w w2 from ((below_alloc (below_alloc (Below.refl _ _) _) _).trans (hb'.mono (by omega))))
  clear hO' hk' ha' hb'
  by_cases he : e2 = 0
  · subst he
    have hR := HO'.out.own
    go_wp2_with fail
    refine (clip_run A' b2.length c' b2 w2 _ _ hR).mono ?_
    rintro r w3 ⟨⟨A3, rfl, hC3⟩, rfl⟩
    have HC3 := Aside0.mk hC3
    clear hC3 hR
    go_wp2_with fail
    go_ret2
    exact ⟨A3, b2.length, rfl, HC3.out, Nat.le_refl _, HB.out⟩
  · have he1 : (e2 != 0) = true := by simpa using he
    have he2 : (e2 == 0) = false := by simpa using he
    have HE := Aside0.mk (show encR (b2, e2) = ([], e2) from if_neg he)
    clear he
    go_wp2_with fail
    go_region_held3 (fun w' => w'.cell? ⟨w.heap.size + 1, 1, none⟩ = some (.int .i64 e2)) (go_keep) (fail)
    all_goals
      go_wp2_with fail
      go_ret2
      rw [HE.out]
      exact ⟨none, 0, rfl, Kd.C_nil _ _, Nat.le_refl _, below_drew HB.out⟩
end Go.Proofs.Ytdlkkjfbbeffbaa.P
