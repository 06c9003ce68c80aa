/- Ytjhgbddcenhkfaa: what Go functions come to, and that they do: walks, printed by a program of this session or typed by hand; no statement of the seat stands here. -/
import Derived.Test.YtjhgbddcenhkfaaP0
namespace Go.Proofs.Ytjhgbddcenhkfaa.P
open Go.RowKit Go.Proofs.YtjhgbddcenhkfaaW.PrintWords Go.Proofs.YtjhgbddcenhkfaaW.PrintLast Go.Proofs.YtjhgbddcenhkfaaW.PrintMore
attribute [local go_sem] max2_int min2_int max_two min_two max_three min_three max_four min_four   -- for this text's walks alone
set_option linter.unusedVariables false
set_option linter.unusedSimpArgs false


/-! ### decode_class: function 50 -/
def decode_class.f (a0 : Int) : Option (List Int) := if (a0 / 16777216) = 139 then (some (([1] : List Int))) else (if (a0 / 16777216) = 203 then (some (([2] : List Int))) else (if (a0 / 16777216) = 235 then (some (([3] : List Int))) else (if (a0 / 16777216) = 145 then (some (([4] : List Int))) else (if (a0 / 16777216) = 209 then (some (([5] : List Int))) else (if (a0 / 16777216) = 241 then (some (([6] : List Int))) else (if (a0 / 16777216) = 138 then (some (([7] : List Int))) else (if (a0 / 16777216) = 170 then (some (([8, 10] : List Int))) else (if (a0 / 16777216) = 202 then (some (([9] : List Int))) else (if (a0 / 16777216) = 155 then (some (([11, 12] : List Int))) else (if (a0 / 16777216) = 154 then (some (([13, 14, 15, 21, 22] : List Int))) else (if (a0 / 16777216) = 210 then (some (([16] : List Int))) else (if (a0 / 16777216) = 242 then (some (([17] : List Int))) else (if (a0 / 16777216) = 146 then (some (([18] : List Int))) else (if (a0 / 16777216) = 249 then (some (([19, 20] : List Int))) else (if (a0 / 16777216) = 84 then (some (([25] : List Int))) else (if (a0 / 16777216) = 180 then (some (([26] : List Int))) else (if (a0 / 16777216) = 181 then (some (([27] : List Int))) else (if (a0 / 16777216) = 214 then (some (([28] : List Int))) else (if (a0 / 16777216) = 212 then (some (([29, 30] : List Int))) else (if (a0 / 16777216) = 213 then (some (([31] : List Int))) else (some (([23, 24] : List Int)))))))))))))))))))))))
theorem R_new_lit (w : World) (xs : List Int) (hn : xs.length ≤ 100) : Kd.R (Kd.int .i64) 3 (w.alloc (.cells (nums .i64 xs).toArray 3)) w.heap.size (fun _ => True) (.slice (some ⟨w.heap.size, 0, none⟩) xs.length xs.length) xs :=
  Kd.R_of_own (h1 := fun _ => rfl) (own_lit w w.heap.size 3 .i64 xs (Nat.le_refl _) (by omega)) (fun _ _ => trivial)
set_option maxRecDepth 100000 in
set_option maxHeartbeats 4000000 in
theorem decode_class.calls (a0 : Int) (r : List Int) (w : World) (h : decode_class.f a0 = some r) :
    Calls Try.prog 50 #[.int .u32 a0] w fun e w' => ∃ v0_ : Value, e = .returned (v0_) ∧ Kd.R (Kd.int .i64) 3 w' w.heap.size (fun _ => True) v0_ r ∧ Below w.heap.size w w' := by
  unfold decode_class.f at h
  by_cases h139 : a0 / 16777216 = 139
  · rw [if_pos h139] at h
    obtain rfl := Option.some.inj h
    have b139 : (a0 / 16777216 == 139) = true := by rw [h139]; rfl
    clear h h139
    go_enter Try.func50, Try.ntmps50
    go_wp2_with fail
    go_ret
    exact ⟨_, rfl, R_new_lit w [1] (by decide), below_alloc (Below.refl _ _) _⟩
  rw [if_neg h139] at h
  have b139 : (a0 / 16777216 == 139) = false := by simpa using h139
  by_cases h203 : a0 / 16777216 = 203
  · rw [if_pos h203] at h
    obtain rfl := Option.some.inj h
    have b203 : (a0 / 16777216 == 203) = true := by rw [h203]; rfl
    clear h h203
    go_enter Try.func50, Try.ntmps50
    go_wp2_with fail
    go_ret
    exact ⟨_, rfl, R_new_lit w [2] (by decide), below_alloc (Below.refl _ _) _⟩
  rw [if_neg h203] at h
  have b203 : (a0 / 16777216 == 203) = false := by simpa using h203
  by_cases h235 : a0 / 16777216 = 235
  · rw [if_pos h235] at h
    obtain rfl := Option.some.inj h
    have b235 : (a0 / 16777216 == 235) = true := by rw [h235]; rfl
    clear h h235
    go_enter Try.func50, Try.ntmps50
    go_wp2_with fail
    go_ret
    exact ⟨_, rfl, R_new_lit w [3] (by decide), below_alloc (Below.refl _ _) _⟩
  rw [if_neg h235] at h
  have b235 : (a0 / 16777216 == 235) = false := by simpa using h235
  by_cases h145 : a0 / 16777216 = 145
  · rw [if_pos h145] at h
    obtain rfl := Option.some.inj h
    have b145 : (a0 / 16777216 == 145) = true := by rw [h145]; rfl
    clear h h145
    go_enter Try.func50, Try.ntmps50
    go_wp2_with fail
    go_ret
    exact ⟨_, rfl, R_new_lit w [4] (by decide), below_alloc (Below.refl _ _) _⟩
  rw [if_neg h145] at h
  have b145 : (a0 / 16777216 == 145) = false := by simpa using h145
  by_cases h209 : a0 / 16777216 = 209
  · rw [if_pos h209] at h
    obtain rfl := Option.some.inj h
    have b209 : (a0 / 16777216 == 209) = true := by rw [h209]; rfl
    clear h h209
    go_enter Try.func50, Try.ntmps50
    go_wp2_with fail
    go_ret
    exact ⟨_, rfl, R_new_lit w [5] (by decide), below_alloc (Below.refl _ _) _⟩
  rw [if_neg h209] at h
  have b209 : (a0 / 16777216 == 209) = false := by simpa using h209
  by_cases h241 : a0 / 16777216 = 241
  · rw [if_pos h241] at h
    obtain rfl := Option.some.inj h
    have b241 : (a0 / 16777216 == 241) = true := by rw [h241]; rfl
    clear h h241
    go_enter Try.func50, Try.ntmps50
    go_wp2_with fail
    go_ret
    exact ⟨_, rfl, R_new_lit w [6] (by decide), below_alloc (Below.refl _ _) _⟩
  rw [if_neg h241] at h
  have b241 : (a0 / 16777216 == 241) = false := by simpa using h241
  by_cases h138 : a0 / 16777216 = 138
  · rw [if_pos h138] at h
    obtain rfl := Option.some.inj h
    have b138 : (a0 / 16777216 == 138) = true := by rw [h138]; rfl
    clear h h138
    go_enter Try.func50, Try.ntmps50
    go_wp2_with fail
    go_ret
    exact ⟨_, rfl, R_new_lit w [7] (by decide), below_alloc (Below.refl _ _) _⟩
  rw [if_neg h138] at h
  have b138 : (a0 / 16777216 == 138) = false := by simpa using h138
  by_cases h170 : a0 / 16777216 = 170
  · rw [if_pos h170] at h
    obtain rfl := Option.some.inj h
    have b170 : (a0 / 16777216 == 170) = true := by rw [h170]; rfl
    clear h h170
    go_enter Try.func50, Try.ntmps50
    go_wp2_with fail
    go_ret
    exact ⟨_, rfl, R_new_lit w [8, 10] (by decide), below_alloc (Below.refl _ _) _⟩
  rw [if_neg h170] at h
  have b170 : (a0 / 16777216 == 170) = false := by simpa using h170
  by_cases h202 : a0 / 16777216 = 202
  · rw [if_pos h202] at h
    obtain rfl := Option.some.inj h
    have b202 : (a0 / 16777216 == 202) = true := by rw [h202]; rfl
    clear h h202
    go_enter Try.func50, Try.ntmps50
    go_wp2_with fail
    go_ret
    exact ⟨_, rfl, R_new_lit w [9] (by decide), below_alloc (Below.refl _ _) _⟩
  rw [if_neg h202] at h
  have b202 : (a0 / 16777216 == 202) = false := by simpa using h202
  by_cases h155 : a0 / 16777216 = 155
  · rw [if_pos h155] at h
    obtain rfl := Option.some.inj h
    have b155 : (a0 / 16777216 == 155) = true := by rw [h155]; rfl
    clear h h155
    go_enter Try.func50, Try.ntmps50
    go_wp2_with fail
    go_ret
    exact ⟨_, rfl, R_new_lit w [11, 12] (by decide), below_alloc (Below.refl _ _) _⟩
  rw [if_neg h155] at h
  have b155 : (a0 / 16777216 == 155) = false := by simpa using h155
  by_cases h154 : a0 / 16777216 = 154
  · rw [if_pos h154] at h
    obtain rfl := Option.some.inj h
    have b154 : (a0 / 16777216 == 154) = true := by rw [h154]; rfl
    clear h h154
    go_enter Try.func50, Try.ntmps50
    go_wp2_with fail
    go_ret
    exact ⟨_, rfl, R_new_lit w [13, 14, 15, 21, 22] (by decide), below_alloc (Below.refl _ _) _⟩
  rw [if_neg h154] at h
  have b154 : (a0 / 16777216 == 154) = false := by simpa using h154
  by_cases h210 : a0 / 16777216 = 210
  · rw [if_pos h210] at h
    obtain rfl := Option.some.inj h
    have b210 : (a0 / 16777216 == 210) = true := by rw [h210]; rfl
    clear h h210
    go_enter Try.func50, Try.ntmps50
    go_wp2_with fail
    go_ret
    exact ⟨_, rfl, R_new_lit w [16] (by decide), below_alloc (Below.refl _ _) _⟩
  rw [if_neg h210] at h
  have b210 : (a0 / 16777216 == 210) = false := by simpa using h210
  by_cases h242 : a0 / 16777216 = 242
  · rw [if_pos h242] at h
    obtain rfl := Option.some.inj h
    have b242 : (a0 / 16777216 == 242) = true := by rw [h242]; rfl
    clear h h242
    go_enter Try.func50, Try.ntmps50
    go_wp2_with fail
    go_ret
    exact ⟨_, rfl, R_new_lit w [17] (by decide), below_alloc (Below.refl _ _) _⟩
  rw [if_neg h242] at h
  have b242 : (a0 / 16777216 == 242) = false := by simpa using h242
  by_cases h146 : a0 / 16777216 = 146
  · rw [if_pos h146] at h
    obtain rfl := Option.some.inj h
    have b146 : (a0 / 16777216 == 146) = true := by rw [h146]; rfl
    clear h h146
    go_enter Try.func50, Try.ntmps50
    go_wp2_with fail
    go_ret
    exact ⟨_, rfl, R_new_lit w [18] (by decide), below_alloc (Below.refl _ _) _⟩
  rw [if_neg h146] at h
  have b146 : (a0 / 16777216 == 146) = false := by simpa using h146
  by_cases h249 : a0 / 16777216 = 249
  · rw [if_pos h249] at h
    obtain rfl := Option.some.inj h
    have b249 : (a0 / 16777216 == 249) = true := by rw [h249]; rfl
    clear h h249
    go_enter Try.func50, Try.ntmps50
    go_wp2_with fail
    go_ret
    exact ⟨_, rfl, R_new_lit w [19, 20] (by decide), below_alloc (Below.refl _ _) _⟩
  rw [if_neg h249] at h
  have b249 : (a0 / 16777216 == 249) = false := by simpa using h249
  by_cases h84 : a0 / 16777216 = 84
  · rw [if_pos h84] at h
    obtain rfl := Option.some.inj h
    have b84 : (a0 / 16777216 == 84) = true := by rw [h84]; rfl
    clear h h84
    go_enter Try.func50, Try.ntmps50
    go_wp2_with fail
    go_ret
    exact ⟨_, rfl, R_new_lit w [25] (by decide), below_alloc (Below.refl _ _) _⟩
  rw [if_neg h84] at h
  have b84 : (a0 / 16777216 == 84) = false := by simpa using h84
  by_cases h180 : a0 / 16777216 = 180
  · rw [if_pos h180] at h
    obtain rfl := Option.some.inj h
    have b180 : (a0 / 16777216 == 180) = true := by rw [h180]; rfl
    clear h h180
    go_enter Try.func50, Try.ntmps50
    go_wp2_with fail
    go_ret
    exact ⟨_, rfl, R_new_lit w [26] (by decide), below_alloc (Below.refl _ _) _⟩
  rw [if_neg h180] at h
  have b180 : (a0 / 16777216 == 180) = false := by simpa using h180
  by_cases h181 : a0 / 16777216 = 181
  · rw [if_pos h181] at h
    obtain rfl := Option.some.inj h
    have b181 : (a0 / 16777216 == 181) = true := by rw [h181]; rfl
    clear h h181
    go_enter Try.func50, Try.ntmps50
    go_wp2_with fail
    go_ret
    exact ⟨_, rfl, R_new_lit w [27] (by decide), below_alloc (Below.refl _ _) _⟩
  rw [if_neg h181] at h
  have b181 : (a0 / 16777216 == 181) = false := by simpa using h181
  by_cases h214 : a0 / 16777216 = 214
  · rw [if_pos h214] at h
    obtain rfl := Option.some.inj h
    have b214 : (a0 / 16777216 == 214) = true := by rw [h214]; rfl
    clear h h214
    go_enter Try.func50, Try.ntmps50
    go_wp2_with fail
    go_ret
    exact ⟨_, rfl, R_new_lit w [28] (by decide), below_alloc (Below.refl _ _) _⟩
  rw [if_neg h214] at h
  have b214 : (a0 / 16777216 == 214) = false := by simpa using h214
  by_cases h212 : a0 / 16777216 = 212
  · rw [if_pos h212] at h
    obtain rfl := Option.some.inj h
    have b212 : (a0 / 16777216 == 212) = true := by rw [h212]; rfl
    clear h h212
    go_enter Try.func50, Try.ntmps50
    go_wp2_with fail
    go_ret
    exact ⟨_, rfl, R_new_lit w [29, 30] (by decide), below_alloc (Below.refl _ _) _⟩
  rw [if_neg h212] at h
  have b212 : (a0 / 16777216 == 212) = false := by simpa using h212
  by_cases h213 : a0 / 16777216 = 213
  · rw [if_pos h213] at h
    obtain rfl := Option.some.inj h
    have b213 : (a0 / 16777216 == 213) = true := by rw [h213]; rfl
    clear h h213
    go_enter Try.func50, Try.ntmps50
    go_wp2_with fail
    go_ret
    exact ⟨_, rfl, R_new_lit w [31] (by decide), below_alloc (Below.refl _ _) _⟩
  rw [if_neg h213] at h
  have b213 : (a0 / 16777216 == 213) = false := by simpa using h213
  obtain rfl := Option.some.inj h
  go_enter Try.func50, Try.ntmps50
  go_wp2_with fail
  go_ret
  exact ⟨_, rfl, R_new_lit w [23, 24] (by decide), below_alloc (Below.refl _ _) _⟩

end Go.Proofs.Ytjhgbddcenhkfaa.P
