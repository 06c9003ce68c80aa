/- Ytjkjpmfenillcaa: what Go functions come to, and that they do: walks, printed by a program of this session or typed by hand; no statement of the seat stands here. -/
import Derived.Test.YtjkjpmfenillcaaP0
namespace Go.Proofs.Ytjkjpmfenillcaa.P
open Go.RowKit Go.Proofs.YtjkjpmfenillcaaW.PrintWords Go.Proofs.YtjkjpmfenillcaaW.PrintLast Go.Proofs.YtjkjpmfenillcaaW.PrintMore
attribute [local go_sem] max2_int min2_int max_two min_two max_three min_three max_four min_four   -- for this text's walks alone
set_option linter.unusedVariables false
set_option linter.unusedSimpArgs false

/-! ### instr_reckons: function 113 -/
def instr_reckons.f (a0 : Int) : Option (ByteArray) := if a0 = 8 then (some (⟨#[97, 100, 100]⟩ : ByteArray)) else (if a0 = 9 then (some (⟨#[115, 117, 98]⟩ : ByteArray)) else (if a0 = 10 then (some (⟨#[109, 117, 108]⟩ : ByteArray)) else (if a0 = 11 then (some (⟨#[100, 105, 118]⟩ : ByteArray)) else (if a0 = 12 then (some (⟨#[114, 101, 109]⟩ : ByteArray)) else (if a0 = 13 then (some (⟨#[97, 110, 100]⟩ : ByteArray)) else (if a0 = 14 then (some (⟨#[111, 114]⟩ : ByteArray)) else (if a0 = 15 then (some (⟨#[120, 111, 114]⟩ : ByteArray)) else (if a0 = 16 then (some (⟨#[115, 104, 108]⟩ : ByteArray)) else (if a0 = 17 then (some (⟨#[115, 104, 114]⟩ : ByteArray)) else (if a0 = 18 then (some (⟨#[110, 101, 103]⟩ : ByteArray)) else (if a0 = 19 then (some (⟨#[110, 111, 116]⟩ : ByteArray)) else (if a0 = 20 then (some (⟨#[101, 113]⟩ : ByteArray)) else (if a0 = 21 then (some (⟨#[110, 101]⟩ : ByteArray)) else (if a0 = 22 then (some (⟨#[108, 116]⟩ : ByteArray)) else (if a0 = 23 then (some (⟨#[108, 101]⟩ : ByteArray)) else (if a0 = 24 then (some (⟨#[102, 108, 105, 112]⟩ : ByteArray)) else (if a0 = 25 then (some (⟨#[98, 111, 116, 104]⟩ : ByteArray)) else (if a0 = 26 then (some (⟨#[101, 105, 116, 104, 101, 114]⟩ : ByteArray)) else (if a0 = 27 then (some (⟨#[110, 117, 109, 98, 101, 114]⟩ : ByteArray)) else (if a0 = 28 then (some (⟨#[112, 105, 99, 107]⟩ : ByteArray)) else (some (⟨#[]⟩ : ByteArray))))))))))))))))))))))
set_option maxHeartbeats 8000000 in
set_option maxRecDepth 100000 in
theorem instr_reckons.calls (a0 : Int) (r : ByteArray) (w : World) (h : instr_reckons.f a0 = some r) :
    Calls Try.prog 113 #[.int .i64 a0] w fun e w' => e = .returned (.string r) ∧ Drawn0 w w' := by
  have H : (if a0 = 8 then (some (⟨#[97, 100, 100]⟩ : ByteArray)) else (if a0 = 9 then (some (⟨#[115, 117, 98]⟩ : ByteArray)) else (if a0 = 10 then (some (⟨#[109, 117, 108]⟩ : ByteArray)) else (if a0 = 11 then (some (⟨#[100, 105, 118]⟩ : ByteArray)) else (if a0 = 12 then (some (⟨#[114, 101, 109]⟩ : ByteArray)) else (if a0 = 13 then (some (⟨#[97, 110, 100]⟩ : ByteArray)) else (if a0 = 14 then (some (⟨#[111, 114]⟩ : ByteArray)) else (if a0 = 15 then (some (⟨#[120, 111, 114]⟩ : ByteArray)) else (if a0 = 16 then (some (⟨#[115, 104, 108]⟩ : ByteArray)) else (if a0 = 17 then (some (⟨#[115, 104, 114]⟩ : ByteArray)) else (if a0 = 18 then (some (⟨#[110, 101, 103]⟩ : ByteArray)) else (if a0 = 19 then (some (⟨#[110, 111, 116]⟩ : ByteArray)) else (if a0 = 20 then (some (⟨#[101, 113]⟩ : ByteArray)) else (if a0 = 21 then (some (⟨#[110, 101]⟩ : ByteArray)) else (if a0 = 22 then (some (⟨#[108, 116]⟩ : ByteArray)) else (if a0 = 23 then (some (⟨#[108, 101]⟩ : ByteArray)) else (if a0 = 24 then (some (⟨#[102, 108, 105, 112]⟩ : ByteArray)) else (if a0 = 25 then (some (⟨#[98, 111, 116, 104]⟩ : ByteArray)) else (if a0 = 26 then (some (⟨#[101, 105, 116, 104, 101, 114]⟩ : ByteArray)) else (if a0 = 27 then (some (⟨#[110, 117, 109, 98, 101, 114]⟩ : ByteArray)) else (if a0 = 28 then (some (⟨#[112, 105, 99, 107]⟩ : ByteArray)) else (some (⟨#[]⟩ : ByteArray))))))))))))))))))))))) = some r := h
  clear h
  by_cases c2 : a0 = 8
  · rw [if_pos c2] at H
    have c2b0 : (a0 == 8) = true := beq_iff_eq.mpr c2
    have c2b1 : (a0 != 8) = false := bne_eq_false_iff_eq.mpr c2
    clear c2
    obtain rfl := Option.some.inj H
    go_enter Try.func113, Try.ntmps113
    go_wp2
    go_ret
    exact ⟨by first | rfl | (simp; done) | (simp [*]; done), by repeat (first | exact Drawn0.refl _ | apply Drawn0.step)⟩
  · rw [if_neg c2] at H
    have c2b0 : (a0 == 8) = false := beq_eq_false_iff_ne.mpr c2
    have c2b1 : (a0 != 8) = true := bne_iff_ne.mpr c2
    by_cases c3 : a0 = 9
    · rw [if_pos c3] at H
      have c3b0 : (a0 == 9) = true := beq_iff_eq.mpr c3
      have c3b1 : (a0 != 9) = false := bne_eq_false_iff_eq.mpr c3
      clear c3
      obtain rfl := Option.some.inj H
      go_enter Try.func113, Try.ntmps113
      go_wp2
      go_ret
      exact ⟨by first | rfl | (simp; done) | (simp [*]; done), by repeat (first | exact Drawn0.refl _ | apply Drawn0.step)⟩
    · rw [if_neg c3] at H
      have c3b0 : (a0 == 9) = false := beq_eq_false_iff_ne.mpr c3
      have c3b1 : (a0 != 9) = true := bne_iff_ne.mpr c3
      by_cases c4 : a0 = 10
      · rw [if_pos c4] at H
        have c4b0 : (a0 == 10) = true := beq_iff_eq.mpr c4
        have c4b1 : (a0 != 10) = false := bne_eq_false_iff_eq.mpr c4
        clear c4
        obtain rfl := Option.some.inj H
        go_enter Try.func113, Try.ntmps113
        go_wp2
        go_ret
        exact ⟨by first | rfl | (simp; done) | (simp [*]; done), by repeat (first | exact Drawn0.refl _ | apply Drawn0.step)⟩
      · rw [if_neg c4] at H
        have c4b0 : (a0 == 10) = false := beq_eq_false_iff_ne.mpr c4
        have c4b1 : (a0 != 10) = true := bne_iff_ne.mpr c4
        by_cases c5 : a0 = 11
        · rw [if_pos c5] at H
          have c5b0 : (a0 == 11) = true := beq_iff_eq.mpr c5
          have c5b1 : (a0 != 11) = false := bne_eq_false_iff_eq.mpr c5
          clear c5
          obtain rfl := Option.some.inj H
          go_enter Try.func113, Try.ntmps113
          go_wp2
          go_ret
          exact ⟨by first | rfl | (simp; done) | (simp [*]; done), by repeat (first | exact Drawn0.refl _ | apply Drawn0.step)⟩
        · rw [if_neg c5] at H
          have c5b0 : (a0 == 11) = false := beq_eq_false_iff_ne.mpr c5
          have c5b1 : (a0 != 11) = true := bne_iff_ne.mpr c5
          by_cases c6 : a0 = 12
          · rw [if_pos c6] at H
            have c6b0 : (a0 == 12) = true := beq_iff_eq.mpr c6
            have c6b1 : (a0 != 12) = false := bne_eq_false_iff_eq.mpr c6
            clear c6
            obtain rfl := Option.some.inj H
            go_enter Try.func113, Try.ntmps113
            go_wp2
            go_ret
            exact ⟨by first | rfl | (simp; done) | (simp [*]; done), by repeat (first | exact Drawn0.refl _ | apply Drawn0.step)⟩
          · rw [if_neg c6] at H
            have c6b0 : (a0 == 12) = false := beq_eq_false_iff_ne.mpr c6
            have c6b1 : (a0 != 12) = true := bne_iff_ne.mpr c6
            by_cases c7 : a0 = 13
            · rw [if_pos c7] at H
              have c7b0 : (a0 == 13) = true := beq_iff_eq.mpr c7
              have c7b1 : (a0 != 13) = false := bne_eq_false_iff_eq.mpr c7
              clear c7
              obtain rfl := Option.some.inj H
              go_enter Try.func113, Try.ntmps113
              go_wp2
              go_ret
              exact ⟨by first | rfl | (simp; done) | (simp [*]; done), by repeat (first | exact Drawn0.refl _ | apply Drawn0.step)⟩
            · rw [if_neg c7] at H
              have c7b0 : (a0 == 13) = false := beq_eq_false_iff_ne.mpr c7
              have c7b1 : (a0 != 13) = true := bne_iff_ne.mpr c7
              by_cases c8 : a0 = 14
              · rw [if_pos c8] at H
                have c8b0 : (a0 == 14) = true := beq_iff_eq.mpr c8
                have c8b1 : (a0 != 14) = false := bne_eq_false_iff_eq.mpr c8
                clear c8
                obtain rfl := Option.some.inj H
                go_enter Try.func113, Try.ntmps113
                go_wp2
                go_ret
                exact ⟨by first | rfl | (simp; done) | (simp [*]; done), by repeat (first | exact Drawn0.refl _ | apply Drawn0.step)⟩
              · rw [if_neg c8] at H
                have c8b0 : (a0 == 14) = false := beq_eq_false_iff_ne.mpr c8
                have c8b1 : (a0 != 14) = true := bne_iff_ne.mpr c8
                by_cases c9 : a0 = 15
                · rw [if_pos c9] at H
                  have c9b0 : (a0 == 15) = true := beq_iff_eq.mpr c9
                  have c9b1 : (a0 != 15) = false := bne_eq_false_iff_eq.mpr c9
                  clear c9
                  obtain rfl := Option.some.inj H
                  go_enter Try.func113, Try.ntmps113
                  go_wp2
                  go_ret
                  exact ⟨by first | rfl | (simp; done) | (simp [*]; done), by repeat (first | exact Drawn0.refl _ | apply Drawn0.step)⟩
                · rw [if_neg c9] at H
                  have c9b0 : (a0 == 15) = false := beq_eq_false_iff_ne.mpr c9
                  have c9b1 : (a0 != 15) = true := bne_iff_ne.mpr c9
                  by_cases c10 : a0 = 16
                  · rw [if_pos c10] at H
                    have c10b0 : (a0 == 16) = true := beq_iff_eq.mpr c10
                    have c10b1 : (a0 != 16) = false := bne_eq_false_iff_eq.mpr c10
                    clear c10
                    obtain rfl := Option.some.inj H
                    go_enter Try.func113, Try.ntmps113
                    go_wp2
                    go_ret
                    exact ⟨by first | rfl | (simp; done) | (simp [*]; done), by repeat (first | exact Drawn0.refl _ | apply Drawn0.step)⟩
                  · rw [if_neg c10] at H
                    have c10b0 : (a0 == 16) = false := beq_eq_false_iff_ne.mpr c10
                    have c10b1 : (a0 != 16) = true := bne_iff_ne.mpr c10
                    by_cases c11 : a0 = 17
                    · rw [if_pos c11] at H
                      have c11b0 : (a0 == 17) = true := beq_iff_eq.mpr c11
                      have c11b1 : (a0 != 17) = false := bne_eq_false_iff_eq.mpr c11
                      clear c11
                      obtain rfl := Option.some.inj H
                      go_enter Try.func113, Try.ntmps113
                      go_wp2
                      go_ret
                      exact ⟨by first | rfl | (simp; done) | (simp [*]; done), by repeat (first | exact Drawn0.refl _ | apply Drawn0.step)⟩
                    · rw [if_neg c11] at H
                      have c11b0 : (a0 == 17) = false := beq_eq_false_iff_ne.mpr c11
                      have c11b1 : (a0 != 17) = true := bne_iff_ne.mpr c11
                      by_cases c12 : a0 = 18
                      · rw [if_pos c12] at H
                        have c12b0 : (a0 == 18) = true := beq_iff_eq.mpr c12
                        have c12b1 : (a0 != 18) = false := bne_eq_false_iff_eq.mpr c12
                        clear c12
                        obtain rfl := Option.some.inj H
                        go_enter Try.func113, Try.ntmps113
                        go_wp2
                        go_ret
                        exact ⟨by first | rfl | (simp; done) | (simp [*]; done), by repeat (first | exact Drawn0.refl _ | apply Drawn0.step)⟩
                      · rw [if_neg c12] at H
                        have c12b0 : (a0 == 18) = false := beq_eq_false_iff_ne.mpr c12
                        have c12b1 : (a0 != 18) = true := bne_iff_ne.mpr c12
                        by_cases c13 : a0 = 19
                        · rw [if_pos c13] at H
                          have c13b0 : (a0 == 19) = true := beq_iff_eq.mpr c13
                          have c13b1 : (a0 != 19) = false := bne_eq_false_iff_eq.mpr c13
                          clear c13
                          obtain rfl := Option.some.inj H
                          go_enter Try.func113, Try.ntmps113
                          go_wp2
                          go_ret
                          exact ⟨by first | rfl | (simp; done) | (simp [*]; done), by repeat (first | exact Drawn0.refl _ | apply Drawn0.step)⟩
                        · rw [if_neg c13] at H
                          have c13b0 : (a0 == 19) = false := beq_eq_false_iff_ne.mpr c13
                          have c13b1 : (a0 != 19) = true := bne_iff_ne.mpr c13
                          by_cases c14 : a0 = 20
                          · rw [if_pos c14] at H
                            have c14b0 : (a0 == 20) = true := beq_iff_eq.mpr c14
                            have c14b1 : (a0 != 20) = false := bne_eq_false_iff_eq.mpr c14
                            clear c14
                            obtain rfl := Option.some.inj H
                            go_enter Try.func113, Try.ntmps113
                            go_wp2
                            go_ret
                            exact ⟨by first | rfl | (simp; done) | (simp [*]; done), by repeat (first | exact Drawn0.refl _ | apply Drawn0.step)⟩
                          · rw [if_neg c14] at H
                            have c14b0 : (a0 == 20) = false := beq_eq_false_iff_ne.mpr c14
                            have c14b1 : (a0 != 20) = true := bne_iff_ne.mpr c14
                            by_cases c15 : a0 = 21
                            · rw [if_pos c15] at H
                              have c15b0 : (a0 == 21) = true := beq_iff_eq.mpr c15
                              have c15b1 : (a0 != 21) = false := bne_eq_false_iff_eq.mpr c15
                              clear c15
                              obtain rfl := Option.some.inj H
                              go_enter Try.func113, Try.ntmps113
                              go_wp2
                              go_ret
                              exact ⟨by first | rfl | (simp; done) | (simp [*]; done), by repeat (first | exact Drawn0.refl _ | apply Drawn0.step)⟩
                            · rw [if_neg c15] at H
                              have c15b0 : (a0 == 21) = false := beq_eq_false_iff_ne.mpr c15
                              have c15b1 : (a0 != 21) = true := bne_iff_ne.mpr c15
                              by_cases c16 : a0 = 22
                              · rw [if_pos c16] at H
                                have c16b0 : (a0 == 22) = true := beq_iff_eq.mpr c16
                                have c16b1 : (a0 != 22) = false := bne_eq_false_iff_eq.mpr c16
                                clear c16
                                obtain rfl := Option.some.inj H
                                go_enter Try.func113, Try.ntmps113
                                go_wp2
                                go_ret
                                exact ⟨by first | rfl | (simp; done) | (simp [*]; done), by repeat (first | exact Drawn0.refl _ | apply Drawn0.step)⟩
                              · rw [if_neg c16] at H
                                have c16b0 : (a0 == 22) = false := beq_eq_false_iff_ne.mpr c16
                                have c16b1 : (a0 != 22) = true := bne_iff_ne.mpr c16
                                by_cases c17 : a0 = 23
                                · rw [if_pos c17] at H
                                  have c17b0 : (a0 == 23) = true := beq_iff_eq.mpr c17
                                  have c17b1 : (a0 != 23) = false := bne_eq_false_iff_eq.mpr c17
                                  clear c17
                                  obtain rfl := Option.some.inj H
                                  go_enter Try.func113, Try.ntmps113
                                  go_wp2
                                  go_ret
                                  exact ⟨by first | rfl | (simp; done) | (simp [*]; done), by repeat (first | exact Drawn0.refl _ | apply Drawn0.step)⟩
                                · rw [if_neg c17] at H
                                  have c17b0 : (a0 == 23) = false := beq_eq_false_iff_ne.mpr c17
                                  have c17b1 : (a0 != 23) = true := bne_iff_ne.mpr c17
                                  by_cases c18 : a0 = 24
                                  · rw [if_pos c18] at H
                                    have c18b0 : (a0 == 24) = true := beq_iff_eq.mpr c18
                                    have c18b1 : (a0 != 24) = false := bne_eq_false_iff_eq.mpr c18
                                    clear c18
                                    obtain rfl := Option.some.inj H
                                    go_enter Try.func113, Try.ntmps113
                                    go_wp2
                                    go_ret
                                    exact ⟨by first | rfl | (simp; done) | (simp [*]; done), by repeat (first | exact Drawn0.refl _ | apply Drawn0.step)⟩
                                  · rw [if_neg c18] at H
                                    have c18b0 : (a0 == 24) = false := beq_eq_false_iff_ne.mpr c18
                                    have c18b1 : (a0 != 24) = true := bne_iff_ne.mpr c18
                                    by_cases c19 : a0 = 25
                                    · rw [if_pos c19] at H
                                      have c19b0 : (a0 == 25) = true := beq_iff_eq.mpr c19
                                      have c19b1 : (a0 != 25) = false := bne_eq_false_iff_eq.mpr c19
                                      clear c19
                                      obtain rfl := Option.some.inj H
                                      go_enter Try.func113, Try.ntmps113
                                      go_wp2
                                      go_ret
                                      exact ⟨by first | rfl | (simp; done) | (simp [*]; done), by repeat (first | exact Drawn0.refl _ | apply Drawn0.step)⟩
                                    · rw [if_neg c19] at H
                                      have c19b0 : (a0 == 25) = false := beq_eq_false_iff_ne.mpr c19
                                      have c19b1 : (a0 != 25) = true := bne_iff_ne.mpr c19
                                      by_cases c20 : a0 = 26
                                      · rw [if_pos c20] at H
                                        have c20b0 : (a0 == 26) = true := beq_iff_eq.mpr c20
                                        have c20b1 : (a0 != 26) = false := bne_eq_false_iff_eq.mpr c20
                                        clear c20
                                        obtain rfl := Option.some.inj H
                                        go_enter Try.func113, Try.ntmps113
                                        go_wp2
                                        go_ret
                                        exact ⟨by first | rfl | (simp; done) | (simp [*]; done), by repeat (first | exact Drawn0.refl _ | apply Drawn0.step)⟩
                                      · rw [if_neg c20] at H
                                        have c20b0 : (a0 == 26) = false := beq_eq_false_iff_ne.mpr c20
                                        have c20b1 : (a0 != 26) = true := bne_iff_ne.mpr c20
                                        by_cases c21 : a0 = 27
                                        · rw [if_pos c21] at H
                                          have c21b0 : (a0 == 27) = true := beq_iff_eq.mpr c21
                                          have c21b1 : (a0 != 27) = false := bne_eq_false_iff_eq.mpr c21
                                          clear c21
                                          obtain rfl := Option.some.inj H
                                          go_enter Try.func113, Try.ntmps113
                                          go_wp2
                                          go_ret
                                          exact ⟨by first | rfl | (simp; done) | (simp [*]; done), by repeat (first | exact Drawn0.refl _ | apply Drawn0.step)⟩
                                        · rw [if_neg c21] at H
                                          have c21b0 : (a0 == 27) = false := beq_eq_false_iff_ne.mpr c21
                                          have c21b1 : (a0 != 27) = true := bne_iff_ne.mpr c21
                                          by_cases c22 : a0 = 28
                                          · rw [if_pos c22] at H
                                            have c22b0 : (a0 == 28) = true := beq_iff_eq.mpr c22
                                            have c22b1 : (a0 != 28) = false := bne_eq_false_iff_eq.mpr c22
                                            clear c22
                                            obtain rfl := Option.some.inj H
                                            go_enter Try.func113, Try.ntmps113
                                            go_wp2
                                            go_ret
                                            exact ⟨by first | rfl | (simp; done) | (simp [*]; done), by repeat (first | exact Drawn0.refl _ | apply Drawn0.step)⟩
                                          · rw [if_neg c22] at H
                                            have c22b0 : (a0 == 28) = false := beq_eq_false_iff_ne.mpr c22
                                            have c22b1 : (a0 != 28) = true := bne_iff_ne.mpr c22
                                            obtain rfl := Option.some.inj H
                                            go_enter Try.func113, Try.ntmps113
                                            go_wp2
                                            go_ret
                                            exact ⟨by first | rfl | (simp; done) | (simp [*]; done), by repeat (first | exact Drawn0.refl _ | apply Drawn0.step)⟩

end Go.Proofs.Ytjkjpmfenillcaa.P
