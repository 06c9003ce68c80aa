/- Ytjkjpmfenillcaa: what Go functions come to, and that they do: walks, printed by a program of this session or typed by hand; no statement of the seat stands here. -/
import Derived.Test.YtjkjpmfenillcaaP0
import Derived.Test.YtjkjpmfenillcaaPF113
namespace Go.Proofs.Ytjkjpmfenillcaa.P
open Go.RowKit Go.Proofs.YtjkjpmfenillcaaW.PrintWords Go.Proofs.YtjkjpmfenillcaaW.PrintLast Go.Proofs.YtjkjpmfenillcaaW.PrintMore
attribute [local go_sem] max2_int min2_int max_two min_two max_three min_three max_four min_four   -- for this text's walks alone
set_option linter.unusedVariables false
set_option linter.unusedSimpArgs false

/-! ### instr_Name: function 109 -/
def instr_Name.f (a0 : Int) : Option (ByteArray) := if a0 = 0 then (some (⟨#[110, 111, 112]⟩ : ByteArray)) else (if a0 = 1 then (some (⟨#[99, 111, 110, 115, 116]⟩ : ByteArray)) else (if a0 = 2 then (some (⟨#[115, 109, 97, 108, 108]⟩ : ByteArray)) else (if a0 = 3 then (some (⟨#[108, 111, 97, 100]⟩ : ByteArray)) else (if a0 = 4 then (some (⟨#[115, 97, 118, 101]⟩ : ByteArray)) else (if a0 = 5 then (some (⟨#[100, 114, 111, 112]⟩ : ByteArray)) else (if a0 = 6 then (some (⟨#[100, 117, 112]⟩ : ByteArray)) else (if a0 = 7 then (some (⟨#[115, 119, 97, 112]⟩ : ByteArray)) else (if a0 = 29 then (some (⟨#[106, 117, 109, 112]⟩ : ByteArray)) else (if a0 = 30 then (some (⟨#[105, 102]⟩ : ByteArray)) else (if a0 = 31 then (some (⟨#[99, 97, 108, 108]⟩ : ByteArray)) else (if a0 = 32 then (some (⟨#[114, 101, 116, 117, 114, 110]⟩ : ByteArray)) else (if a0 = 33 then (some (⟨#[102, 101, 116, 99, 104]⟩ : ByteArray)) else (if a0 = 34 then (some (⟨#[112, 117, 116]⟩ : ByteArray)) else (if a0 = 35 then (some (⟨#[101, 114, 97, 115, 101]⟩ : ByteArray)) else (if a0 = 36 then (some (⟨#[115, 101, 101, 107]⟩ : ByteArray)) else (if a0 = 37 then (some (⟨#[99, 111, 117, 110, 116]⟩ : ByteArray)) else (if a0 = 38 then (some (⟨#[102, 97, 105, 108]⟩ : ByteArray)) else (if a0 = 48 then (some (⟨#[99, 108, 111, 99, 107]⟩ : ByteArray)) else (if a0 = 49 then (some (⟨#[114, 97, 110, 100, 111, 109]⟩ : ByteArray)) else (if a0 = 50 then (some (⟨#[97, 110, 121]⟩ : ByteArray)) else ((instr_reckons.f a0).bind fun t128 => (some t128))))))))))))))))))))))
set_option maxHeartbeats 8000000 in
set_option maxRecDepth 100000 in
theorem instr_Name.calls (a0 : Int) (r : ByteArray) (w : World) (h : instr_Name.f a0 = some r) :
    Calls Try.prog 109 #[.int .i64 a0] w fun e w' => e = .returned (.string r) ∧ Drawn0 w w' := by
  have H : (if a0 = 0 then (some (⟨#[110, 111, 112]⟩ : ByteArray)) else (if a0 = 1 then (some (⟨#[99, 111, 110, 115, 116]⟩ : ByteArray)) else (if a0 = 2 then (some (⟨#[115, 109, 97, 108, 108]⟩ : ByteArray)) else (if a0 = 3 then (some (⟨#[108, 111, 97, 100]⟩ : ByteArray)) else (if a0 = 4 then (some (⟨#[115, 97, 118, 101]⟩ : ByteArray)) else (if a0 = 5 then (some (⟨#[100, 114, 111, 112]⟩ : ByteArray)) else (if a0 = 6 then (some (⟨#[100, 117, 112]⟩ : ByteArray)) else (if a0 = 7 then (some (⟨#[115, 119, 97, 112]⟩ : ByteArray)) else (if a0 = 29 then (some (⟨#[106, 117, 109, 112]⟩ : ByteArray)) else (if a0 = 30 then (some (⟨#[105, 102]⟩ : ByteArray)) else (if a0 = 31 then (some (⟨#[99, 97, 108, 108]⟩ : ByteArray)) else (if a0 = 32 then (some (⟨#[114, 101, 116, 117, 114, 110]⟩ : ByteArray)) else (if a0 = 33 then (some (⟨#[102, 101, 116, 99, 104]⟩ : ByteArray)) else (if a0 = 34 then (some (⟨#[112, 117, 116]⟩ : ByteArray)) else (if a0 = 35 then (some (⟨#[101, 114, 97, 115, 101]⟩ : ByteArray)) else (if a0 = 36 then (some (⟨#[115, 101, 101, 107]⟩ : ByteArray)) else (if a0 = 37 then (some (⟨#[99, 111, 117, 110, 116]⟩ : ByteArray)) else (if a0 = 38 then (some (⟨#[102, 97, 105, 108]⟩ : ByteArray)) else (if a0 = 48 then (some (⟨#[99, 108, 111, 99, 107]⟩ : ByteArray)) else (if a0 = 49 then (some (⟨#[114, 97, 110, 100, 111, 109]⟩ : ByteArray)) else (if a0 = 50 then (some (⟨#[97, 110, 121]⟩ : ByteArray)) else ((instr_reckons.f a0).bind fun t128 => (some t128))))))))))))))))))))))) = some r := h
  clear h
  by_cases c2 : a0 = 0
  · rw [if_pos c2] at H
    have c2b0 : (a0 == 0) = true := beq_iff_eq.mpr c2
    have c2b1 : (a0 != 0) = false := bne_eq_false_iff_eq.mpr c2
    clear c2
    obtain rfl := Option.some.inj H
    go_enter Try.func109, Try.ntmps109
    go_wp2
    go_ret
    exact ⟨by first | rfl | (simp; done) | (simp [*]; done), by repeat (first | exact Drawn0.refl _ | apply Drawn0.step)⟩
  · rw [if_neg c2] at H
    have c2b0 : (a0 == 0) = false := beq_eq_false_iff_ne.mpr c2
    have c2b1 : (a0 != 0) = true := bne_iff_ne.mpr c2
    by_cases c3 : a0 = 1
    · rw [if_pos c3] at H
      have c3b0 : (a0 == 1) = true := beq_iff_eq.mpr c3
      have c3b1 : (a0 != 1) = false := bne_eq_false_iff_eq.mpr c3
      clear c3
      obtain rfl := Option.some.inj H
      go_enter Try.func109, Try.ntmps109
      go_wp2
      go_ret
      exact ⟨by first | rfl | (simp; done) | (simp [*]; done), by repeat (first | exact Drawn0.refl _ | apply Drawn0.step)⟩
    · rw [if_neg c3] at H
      have c3b0 : (a0 == 1) = false := beq_eq_false_iff_ne.mpr c3
      have c3b1 : (a0 != 1) = true := bne_iff_ne.mpr c3
      by_cases c4 : a0 = 2
      · rw [if_pos c4] at H
        have c4b0 : (a0 == 2) = true := beq_iff_eq.mpr c4
        have c4b1 : (a0 != 2) = false := bne_eq_false_iff_eq.mpr c4
        clear c4
        obtain rfl := Option.some.inj H
        go_enter Try.func109, Try.ntmps109
        go_wp2
        go_ret
        exact ⟨by first | rfl | (simp; done) | (simp [*]; done), by repeat (first | exact Drawn0.refl _ | apply Drawn0.step)⟩
      · rw [if_neg c4] at H
        have c4b0 : (a0 == 2) = false := beq_eq_false_iff_ne.mpr c4
        have c4b1 : (a0 != 2) = true := bne_iff_ne.mpr c4
        by_cases c5 : a0 = 3
        · rw [if_pos c5] at H
          have c5b0 : (a0 == 3) = true := beq_iff_eq.mpr c5
          have c5b1 : (a0 != 3) = false := bne_eq_false_iff_eq.mpr c5
          clear c5
          obtain rfl := Option.some.inj H
          go_enter Try.func109, Try.ntmps109
          go_wp2
          go_ret
          exact ⟨by first | rfl | (simp; done) | (simp [*]; done), by repeat (first | exact Drawn0.refl _ | apply Drawn0.step)⟩
        · rw [if_neg c5] at H
          have c5b0 : (a0 == 3) = false := beq_eq_false_iff_ne.mpr c5
          have c5b1 : (a0 != 3) = true := bne_iff_ne.mpr c5
          by_cases c6 : a0 = 4
          · rw [if_pos c6] at H
            have c6b0 : (a0 == 4) = true := beq_iff_eq.mpr c6
            have c6b1 : (a0 != 4) = false := bne_eq_false_iff_eq.mpr c6
            clear c6
            obtain rfl := Option.some.inj H
            go_enter Try.func109, Try.ntmps109
            go_wp2
            go_ret
            exact ⟨by first | rfl | (simp; done) | (simp [*]; done), by repeat (first | exact Drawn0.refl _ | apply Drawn0.step)⟩
          · rw [if_neg c6] at H
            have c6b0 : (a0 == 4) = false := beq_eq_false_iff_ne.mpr c6
            have c6b1 : (a0 != 4) = true := bne_iff_ne.mpr c6
            by_cases c7 : a0 = 5
            · rw [if_pos c7] at H
              have c7b0 : (a0 == 5) = true := beq_iff_eq.mpr c7
              have c7b1 : (a0 != 5) = false := bne_eq_false_iff_eq.mpr c7
              clear c7
              obtain rfl := Option.some.inj H
              go_enter Try.func109, Try.ntmps109
              go_wp2
              go_ret
              exact ⟨by first | rfl | (simp; done) | (simp [*]; done), by repeat (first | exact Drawn0.refl _ | apply Drawn0.step)⟩
            · rw [if_neg c7] at H
              have c7b0 : (a0 == 5) = false := beq_eq_false_iff_ne.mpr c7
              have c7b1 : (a0 != 5) = true := bne_iff_ne.mpr c7
              by_cases c8 : a0 = 6
              · rw [if_pos c8] at H
                have c8b0 : (a0 == 6) = true := beq_iff_eq.mpr c8
                have c8b1 : (a0 != 6) = false := bne_eq_false_iff_eq.mpr c8
                clear c8
                obtain rfl := Option.some.inj H
                go_enter Try.func109, Try.ntmps109
                go_wp2
                go_ret
                exact ⟨by first | rfl | (simp; done) | (simp [*]; done), by repeat (first | exact Drawn0.refl _ | apply Drawn0.step)⟩
              · rw [if_neg c8] at H
                have c8b0 : (a0 == 6) = false := beq_eq_false_iff_ne.mpr c8
                have c8b1 : (a0 != 6) = true := bne_iff_ne.mpr c8
                by_cases c9 : a0 = 7
                · rw [if_pos c9] at H
                  have c9b0 : (a0 == 7) = true := beq_iff_eq.mpr c9
                  have c9b1 : (a0 != 7) = false := bne_eq_false_iff_eq.mpr c9
                  clear c9
                  obtain rfl := Option.some.inj H
                  go_enter Try.func109, Try.ntmps109
                  go_wp2
                  go_ret
                  exact ⟨by first | rfl | (simp; done) | (simp [*]; done), by repeat (first | exact Drawn0.refl _ | apply Drawn0.step)⟩
                · rw [if_neg c9] at H
                  have c9b0 : (a0 == 7) = false := beq_eq_false_iff_ne.mpr c9
                  have c9b1 : (a0 != 7) = true := bne_iff_ne.mpr c9
                  by_cases c10 : a0 = 29
                  · rw [if_pos c10] at H
                    have c10b0 : (a0 == 29) = true := beq_iff_eq.mpr c10
                    have c10b1 : (a0 != 29) = false := bne_eq_false_iff_eq.mpr c10
                    clear c10
                    obtain rfl := Option.some.inj H
                    go_enter Try.func109, Try.ntmps109
                    go_wp2
                    go_ret
                    exact ⟨by first | rfl | (simp; done) | (simp [*]; done), by repeat (first | exact Drawn0.refl _ | apply Drawn0.step)⟩
                  · rw [if_neg c10] at H
                    have c10b0 : (a0 == 29) = false := beq_eq_false_iff_ne.mpr c10
                    have c10b1 : (a0 != 29) = true := bne_iff_ne.mpr c10
                    by_cases c11 : a0 = 30
                    · rw [if_pos c11] at H
                      have c11b0 : (a0 == 30) = true := beq_iff_eq.mpr c11
                      have c11b1 : (a0 != 30) = false := bne_eq_false_iff_eq.mpr c11
                      clear c11
                      obtain rfl := Option.some.inj H
                      go_enter Try.func109, Try.ntmps109
                      go_wp2
                      go_ret
                      exact ⟨by first | rfl | (simp; done) | (simp [*]; done), by repeat (first | exact Drawn0.refl _ | apply Drawn0.step)⟩
                    · rw [if_neg c11] at H
                      have c11b0 : (a0 == 30) = false := beq_eq_false_iff_ne.mpr c11
                      have c11b1 : (a0 != 30) = true := bne_iff_ne.mpr c11
                      by_cases c12 : a0 = 31
                      · rw [if_pos c12] at H
                        have c12b0 : (a0 == 31) = true := beq_iff_eq.mpr c12
                        have c12b1 : (a0 != 31) = false := bne_eq_false_iff_eq.mpr c12
                        clear c12
                        obtain rfl := Option.some.inj H
                        go_enter Try.func109, Try.ntmps109
                        go_wp2
                        go_ret
                        exact ⟨by first | rfl | (simp; done) | (simp [*]; done), by repeat (first | exact Drawn0.refl _ | apply Drawn0.step)⟩
                      · rw [if_neg c12] at H
                        have c12b0 : (a0 == 31) = false := beq_eq_false_iff_ne.mpr c12
                        have c12b1 : (a0 != 31) = true := bne_iff_ne.mpr c12
                        by_cases c13 : a0 = 32
                        · rw [if_pos c13] at H
                          have c13b0 : (a0 == 32) = true := beq_iff_eq.mpr c13
                          have c13b1 : (a0 != 32) = false := bne_eq_false_iff_eq.mpr c13
                          clear c13
                          obtain rfl := Option.some.inj H
                          go_enter Try.func109, Try.ntmps109
                          go_wp2
                          go_ret
                          exact ⟨by first | rfl | (simp; done) | (simp [*]; done), by repeat (first | exact Drawn0.refl _ | apply Drawn0.step)⟩
                        · rw [if_neg c13] at H
                          have c13b0 : (a0 == 32) = false := beq_eq_false_iff_ne.mpr c13
                          have c13b1 : (a0 != 32) = true := bne_iff_ne.mpr c13
                          by_cases c14 : a0 = 33
                          · rw [if_pos c14] at H
                            have c14b0 : (a0 == 33) = true := beq_iff_eq.mpr c14
                            have c14b1 : (a0 != 33) = false := bne_eq_false_iff_eq.mpr c14
                            clear c14
                            obtain rfl := Option.some.inj H
                            go_enter Try.func109, Try.ntmps109
                            go_wp2
                            go_ret
                            exact ⟨by first | rfl | (simp; done) | (simp [*]; done), by repeat (first | exact Drawn0.refl _ | apply Drawn0.step)⟩
                          · rw [if_neg c14] at H
                            have c14b0 : (a0 == 33) = false := beq_eq_false_iff_ne.mpr c14
                            have c14b1 : (a0 != 33) = true := bne_iff_ne.mpr c14
                            by_cases c15 : a0 = 34
                            · rw [if_pos c15] at H
                              have c15b0 : (a0 == 34) = true := beq_iff_eq.mpr c15
                              have c15b1 : (a0 != 34) = false := bne_eq_false_iff_eq.mpr c15
                              clear c15
                              obtain rfl := Option.some.inj H
                              go_enter Try.func109, Try.ntmps109
                              go_wp2
                              go_ret
                              exact ⟨by first | rfl | (simp; done) | (simp [*]; done), by repeat (first | exact Drawn0.refl _ | apply Drawn0.step)⟩
                            · rw [if_neg c15] at H
                              have c15b0 : (a0 == 34) = false := beq_eq_false_iff_ne.mpr c15
                              have c15b1 : (a0 != 34) = true := bne_iff_ne.mpr c15
                              by_cases c16 : a0 = 35
                              · rw [if_pos c16] at H
                                have c16b0 : (a0 == 35) = true := beq_iff_eq.mpr c16
                                have c16b1 : (a0 != 35) = false := bne_eq_false_iff_eq.mpr c16
                                clear c16
                                obtain rfl := Option.some.inj H
                                go_enter Try.func109, Try.ntmps109
                                go_wp2
                                go_ret
                                exact ⟨by first | rfl | (simp; done) | (simp [*]; done), by repeat (first | exact Drawn0.refl _ | apply Drawn0.step)⟩
                              · rw [if_neg c16] at H
                                have c16b0 : (a0 == 35) = false := beq_eq_false_iff_ne.mpr c16
                                have c16b1 : (a0 != 35) = true := bne_iff_ne.mpr c16
                                by_cases c17 : a0 = 36
                                · rw [if_pos c17] at H
                                  have c17b0 : (a0 == 36) = true := beq_iff_eq.mpr c17
                                  have c17b1 : (a0 != 36) = false := bne_eq_false_iff_eq.mpr c17
                                  clear c17
                                  obtain rfl := Option.some.inj H
                                  go_enter Try.func109, Try.ntmps109
                                  go_wp2
                                  go_ret
                                  exact ⟨by first | rfl | (simp; done) | (simp [*]; done), by repeat (first | exact Drawn0.refl _ | apply Drawn0.step)⟩
                                · rw [if_neg c17] at H
                                  have c17b0 : (a0 == 36) = false := beq_eq_false_iff_ne.mpr c17
                                  have c17b1 : (a0 != 36) = true := bne_iff_ne.mpr c17
                                  by_cases c18 : a0 = 37
                                  · rw [if_pos c18] at H
                                    have c18b0 : (a0 == 37) = true := beq_iff_eq.mpr c18
                                    have c18b1 : (a0 != 37) = false := bne_eq_false_iff_eq.mpr c18
                                    clear c18
                                    obtain rfl := Option.some.inj H
                                    go_enter Try.func109, Try.ntmps109
                                    go_wp2
                                    go_ret
                                    exact ⟨by first | rfl | (simp; done) | (simp [*]; done), by repeat (first | exact Drawn0.refl _ | apply Drawn0.step)⟩
                                  · rw [if_neg c18] at H
                                    have c18b0 : (a0 == 37) = false := beq_eq_false_iff_ne.mpr c18
                                    have c18b1 : (a0 != 37) = true := bne_iff_ne.mpr c18
                                    by_cases c19 : a0 = 38
                                    · rw [if_pos c19] at H
                                      have c19b0 : (a0 == 38) = true := beq_iff_eq.mpr c19
                                      have c19b1 : (a0 != 38) = false := bne_eq_false_iff_eq.mpr c19
                                      clear c19
                                      obtain rfl := Option.some.inj H
                                      go_enter Try.func109, Try.ntmps109
                                      go_wp2
                                      go_ret
                                      exact ⟨by first | rfl | (simp; done) | (simp [*]; done), by repeat (first | exact Drawn0.refl _ | apply Drawn0.step)⟩
                                    · rw [if_neg c19] at H
                                      have c19b0 : (a0 == 38) = false := beq_eq_false_iff_ne.mpr c19
                                      have c19b1 : (a0 != 38) = true := bne_iff_ne.mpr c19
                                      by_cases c20 : a0 = 48
                                      · rw [if_pos c20] at H
                                        have c20b0 : (a0 == 48) = true := beq_iff_eq.mpr c20
                                        have c20b1 : (a0 != 48) = false := bne_eq_false_iff_eq.mpr c20
                                        clear c20
                                        obtain rfl := Option.some.inj H
                                        go_enter Try.func109, Try.ntmps109
                                        go_wp2
                                        go_ret
                                        exact ⟨by first | rfl | (simp; done) | (simp [*]; done), by repeat (first | exact Drawn0.refl _ | apply Drawn0.step)⟩
                                      · rw [if_neg c20] at H
                                        have c20b0 : (a0 == 48) = false := beq_eq_false_iff_ne.mpr c20
                                        have c20b1 : (a0 != 48) = true := bne_iff_ne.mpr c20
                                        by_cases c21 : a0 = 49
                                        · rw [if_pos c21] at H
                                          have c21b0 : (a0 == 49) = true := beq_iff_eq.mpr c21
                                          have c21b1 : (a0 != 49) = false := bne_eq_false_iff_eq.mpr c21
                                          clear c21
                                          obtain rfl := Option.some.inj H
                                          go_enter Try.func109, Try.ntmps109
                                          go_wp2
                                          go_ret
                                          exact ⟨by first | rfl | (simp; done) | (simp [*]; done), by repeat (first | exact Drawn0.refl _ | apply Drawn0.step)⟩
                                        · rw [if_neg c21] at H
                                          have c21b0 : (a0 == 49) = false := beq_eq_false_iff_ne.mpr c21
                                          have c21b1 : (a0 != 49) = true := bne_iff_ne.mpr c21
                                          by_cases c22 : a0 = 50
                                          · rw [if_pos c22] at H
                                            have c22b0 : (a0 == 50) = true := beq_iff_eq.mpr c22
                                            have c22b1 : (a0 != 50) = false := bne_eq_false_iff_eq.mpr c22
                                            clear c22
                                            obtain rfl := Option.some.inj H
                                            go_enter Try.func109, Try.ntmps109
                                            go_wp2
                                            go_ret
                                            exact ⟨by first | rfl | (simp; done) | (simp [*]; done), by repeat (first | exact Drawn0.refl _ | apply Drawn0.step)⟩
                                          · rw [if_neg c22] at H
                                            have c22b0 : (a0 == 50) = false := beq_eq_false_iff_ne.mpr c22
                                            have c22b1 : (a0 != 50) = true := bne_iff_ne.mpr c22
                                            replace H := Option.bind_eq_some_iff.mp H
                                            obtain ⟨t128, A230, H⟩ := H
                                            replace H : (some t128) = some r := H
                                            have A23 := Aside0.mk A230
                                            clear A230
                                            obtain rfl := Option.some.inj H
                                            go_enter Try.func109, Try.ntmps109
                                            go_wp2_with (first | ((with_reducible refine gate_callee (f := 113) rfl ?_); refine goesL_ (some 47) rfl rfl Try.func113 (by kernel_rfl) rfl #[.int .i64 a0] rfl (by (try simp only [List.map_toArray, List.map_cons, List.map_nil]); first | done | rfl | (simp only [List.length_drop, List.length_take]; rfl)) ?_; (with_reducible refine (instr_reckons.calls a0 t128 _ A23.out).mono ?_); rintro e w' ⟨rfl, ⟨nd, rfl⟩⟩; refine ⟨_, rfl, ?_⟩))
                                            go_ret
                                            exact ⟨by first | rfl | (simp; done) | (simp [*]; done), by repeat (first | exact Drawn0.refl _ | apply Drawn0.step)⟩

end Go.Proofs.Ytjkjpmfenillcaa.P
