/- Texts put together: what functions of the program compute, and plain words about them. -/
import Derived.Test.YtgdjfcmmpjcaaaaDoorLawCoordTellsM1
import Derived.Test.YtgdjfcmmpjcaaaaDoorLawCoordTellsM2
namespace Go.Proofs.YtgdjfcmmpjcaaaaDoor.Q
open Go.RowKit Go.Proofs.YtgdjfcmmpjcaaaaDoorW.PrintWords Go.Proofs.YtgdjfcmmpjcaaaaDoorW.PrintLast Go.Proofs.YtgdjfcmmpjcaaaaDoorW.Own Go.Proofs.YtgdjfcmmpjcaaaaDoorW.PrintMore
attribute [local go_sem] max2_int min2_int max_two min_two max_three min_three max_four min_four   -- for this text's walks alone
set_option linter.unusedVariables false
set_option linter.unusedSimpArgs false
set_option maxHeartbeats 20000000
set_option maxRecDepth 100000
def order_Words.l0 : Nat → List (S38) → List (S38) → Int → Option (Int)
 | 0, _, _, _ => none
 | k + 1, x0, x1, x5 => (order_at.f x0 x5).bind fun bt329 => ((order_at.f x1 x5).bind fun bt331 => ((order_word.f k bt329.1 bt329.2 bt331.1 bt331.2).bind fun t333 => (if t333 = 0 then (if (wrap64 (x5 + 1)) < (mx (x0.length : Int) (x1.length : Int)) then (order_Words.l0 k x0 x1 (wrap64 (x5 + 1))) else (some t333)) else (some t333))))
def order_Words.f (k : Nat) (l0 : List (S38)) (l1 : List (S38)) : Option (Int) := order_Words.l0 k l0 l1 0
theorem order_Words.calls (k : Nat) (A0 : Option Addr) (c0 : Nat) (l0 : List (S38)) (A1 : Option Addr) (c1 : Nat) (l1 : List (S38)) (r : Int) (w : World) (hr0 : Kd.C k38 w A0 l0.length l0) (hc0 : l0.length ≤ c0) (hr1 : Kd.C k38 w A1 l1.length l1) (hc1 : l1.length ≤ c1) (hG : Glob w) (h : order_Words.f k l0 l1 = some r) :
 Calls Tryd.prog 141 #[.slice A0 l0.length c0, .slice A1 l1.length c1] w fun e w' => e = .returned (.int .i64 r) ∧ Below w.heap.size w w' := by
 have HG := Aside0.mk hG
 clear hG
 have HR0 := Aside0.mk hr0
 have HC0 := Aside0.mk hc0
 clear hr0 hc0
 have HR1 := Aside0.mk hr1
 have HC1 := Aside0.mk hc1
 clear hr1 hc1
 have HB := Aside0.mk (Below.refl w.heap.size w)
 have H : (order_Words.l0 k l0 l1 0) = some r := h
 clear h
 have HS3 := Aside0.mk H
 clear H
 go_enter Tryd.func141, Tryd.ntmps141
 go_wp2
 refine wp_scope_loop 0 (by rfl) ?_
 have H := HS3.out
 clear HS3
 have H' := Aside0.mk H
 clear H
 go_wp2
 refine wp_label ?_
 rename_i hlb
 refine hlb _ _ ?_
 refine wp_at_label ?_
 refine LoopAt.intro (fun aB_ kq_ a1 w1 => ∃ (u4 u5 u6 u7 u8 u9 u10 u11 u12 u13 u14 u15 u16 u17 u18 u19 u20 u21 u22 u23 u24 u25 u26 u27 : Value), (fun kq v5 w' => ∃ (x5_1 : Int), v5 = .int .i64 x5_1 ∧ Aside0 (order_Words.l0 kq l0 l1 x5_1 = some r) ∧ Aside0 (kq ≤ k) ∧ Aside0 (Below w.heap.size w w')) kq_ u5 w1 ∧ a1 = ((((((((((((((((((((((((aB_.put (some 4) u4).put (some 5) u5).put (some 6) u6).put (some 7) u7).put (some 8) u8).put (some 9) u9).put (some 10) u10).put (some 11) u11).put (some 12) u12).put (some 13) u13).put (some 14) u14).put (some 15) u15).put (some 16) u16).put (some 17) u17).put (some 18) u18).put (some 19) u19).put (some 20) u20).put (some 21) u21).put (some 22) u22).put (some 23) u23).put (some 24) u24).put (some 25) u25).put (some 26) u26).put (some 27) u27)) k ?_ ?_
 ·(repeat apply Exists.intro)
  (try simp only [Act.put, List.setIfInBounds_toArray, List.set_cons_zero, List.set_cons_succ])
  refine ⟨?_, rfl⟩
  exact ⟨(0), cA, H', ⟨Nat.le_refl _⟩, ⟨bE⟩⟩
 ·intro gk a1 wr hinv
  obtain ⟨u4, u5, u6, u7, u8, u9, u10, u11, u12, u13, u14, u15, u16, u17, u18, u19, u20, u21, u22, u23, u24, u25, u26, u27, hrel, ha⟩ := hinv
  subst ha
  (try simp only [Act.put, List.setIfInBounds_toArray, List.set_cons_zero, List.set_cons_succ])
  intro Js0 Ks0 hJs0 hKs0
  clear H'
  try clear c1
  try clear p2
  obtain ⟨x5_1, rfl, HA, HK1, HB⟩ := hrel
  cases gk with
  | zero => exact absurd HA.out (by simp [order_Words.l0])
  | succ k1 =>
   have H := HA.out
   clear HA
   simp only [order_Words.l0] at H
   replace H := bi H
   obtain ⟨⟨t329, t330⟩, A40, H⟩ := H
   try dsimp only at H
   have A4 := Aside0.mk A40
   clear A40
   replace H := bi H
   obtain ⟨⟨t331, t332⟩, A50, H⟩ := H
   try dsimp only at H
   have A5 := Aside0.mk A50
   clear A50
   replace H := bi H
   obtain ⟨t333, A60, H⟩ := H
   try dsimp only at H
   have A6 := Aside0.mk A60
   clear A60
   by_cases c7 : t333 = 0
   rotate_left
   ·rw [if_neg c7] at H
    obtain ⟨c7b0, c7b1⟩ := eqF c7
    obtain rfl := Option.some.inj H
    go_wp2_with (first | (refine gl (some 9) Tryd.func162 #[.slice A0 l0.length c0, .int .i64 x5_1] ?_; (with_reducible refine (order_at.calls _ _ l0 x5_1 t329 t330 _ ?side1 ?side2 (gS HG) A4.out).mono ?_); (case side1 => repeat (first | exact (Kd.C_below HR0.out HB.out) | (with_reducible refine Kd.C_alloc ?_ _) | (with_reducible refine Kd.C_drewN ?_ _) | (with_reducible refine Kd.C_drew ?_))); (case side2 => exact HC0.out); rintro e w16 ⟨rfl, hb⟩; refine ⟨_, rfl, ?_⟩; replace HB := sB hb; (try clear hb)) | (refine gl (some 12) Tryd.func162 #[.slice A1 l1.length c1, .int .i64 x5_1] ?_; (with_reducible refine (order_at.calls _ _ l1 x5_1 t331 t332 _ ?side1 ?side2 (gS HG) A5.out).mono ?_); (case side1 => repeat (first | exact (Kd.C_below HR1.out HB.out) | (with_reducible refine Kd.C_alloc ?_ _) | (with_reducible refine Kd.C_drewN ?_ _) | (with_reducible refine Kd.C_drew ?_))); (case side2 => exact HC1.out); rintro e w17 ⟨rfl, hb⟩; refine ⟨_, rfl, ?_⟩; replace HB := sB hb; (try clear hb)) | (refine gl (some 13) Tryd.func161 #[.agg #[.int .i64 t329, .string t330], .agg #[.int .i64 t331, .string t332]] ?_; (with_reducible refine (order_word.calls k1 t329 t330 t331 t332 t333 _ (gS HG) A6.out).mono ?_); rintro e w18 ⟨rfl, hb⟩; refine ⟨_, rfl, ?_⟩; replace HB := sB hb; (try clear hb)))
    (try simp only [Exit.inBlock, Exit.then, jump_ret])
    go_ret
    exact ⟨eA, bE⟩
   rw [if_pos c7] at H
   obtain ⟨c7b0, c7b1⟩ := eqT c7
   clear c7
   obtain ⟨ji8, hji8⟩ : ∃ j_ : Int, (mx (l0.length : Int) (l1.length : Int)) = j_ := ⟨_, rfl⟩
   rw [hji8] at H
   (try rw [hji8] at A4)
   (try rw [hji8] at A5)
   (try rw [hji8] at A6)
   have hji8_ : (if (l0.length : Int) < (l1.length : Int) then (l1.length : Int) else (l0.length : Int)) = ji8 := hji8
   have hji8n : (if l0.length < l1.length then (l1.length : Int) else (l0.length : Int)) = ji8 := by rw [← hji8_]; simp only [Int.ofNat_lt]
   by_cases c9 : (wrap64 (x5_1 + 1)) < (ji8)
   rotate_left
   ·rw [if_neg c9] at H
    have c9b0 := dF c9
    clear c9
    obtain rfl := Option.some.inj H
    go_wp2_with (first | (refine gl (some 9) Tryd.func162 #[.slice A0 l0.length c0, .int .i64 x5_1] ?_; (with_reducible refine (order_at.calls _ _ l0 x5_1 t329 t330 _ ?side1 ?side2 (gS HG) A4.out).mono ?_); (case side1 => repeat (first | exact (Kd.C_below HR0.out HB.out) | (with_reducible refine Kd.C_alloc ?_ _) | (with_reducible refine Kd.C_drewN ?_ _) | (with_reducible refine Kd.C_drew ?_))); (case side2 => exact HC0.out); rintro e w13 ⟨rfl, hb⟩; refine ⟨_, rfl, ?_⟩; replace HB := sB hb; (try clear hb)) | (refine gl (some 12) Tryd.func162 #[.slice A1 l1.length c1, .int .i64 x5_1] ?_; (with_reducible refine (order_at.calls _ _ l1 x5_1 t331 t332 _ ?side1 ?side2 (gS HG) A5.out).mono ?_); (case side1 => repeat (first | exact (Kd.C_below HR1.out HB.out) | (with_reducible refine Kd.C_alloc ?_ _) | (with_reducible refine Kd.C_drewN ?_ _) | (with_reducible refine Kd.C_drew ?_))); (case side2 => exact HC1.out); rintro e w14 ⟨rfl, hb⟩; refine ⟨_, rfl, ?_⟩; replace HB := sB hb; (try clear hb)) | (refine gl (some 13) Tryd.func161 #[.agg #[.int .i64 t329, .string t330], .agg #[.int .i64 t331, .string t332]] ?_; (with_reducible refine (order_word.calls k1 t329 t330 t331 t332 t333 _ (gS HG) A6.out).mono ?_); rintro e w15 ⟨rfl, hb⟩; refine ⟨_, rfl, ?_⟩; replace HB := sB hb; (try clear hb)))
    (try simp only [Exit.inBlock, Exit.then, jump_ret])
    go_ret
    exact ⟨by first | rfl | (simp [errW_none, errW_some] <;> rfl) | (simp only [← hji8]; first | rfl | (simp [errW_none, errW_some] <;> rfl)) | (simp [*, errW_none, errW_some] <;> rfl), bE⟩
   rw [if_pos c9] at H
   have c9b0 := dT c9
   clear c9
   have H' := Aside0.mk H
   clear H
   go_wp2_with (first | (refine gl (some 9) Tryd.func162 #[.slice A0 l0.length c0, .int .i64 x5_1] ?_; (with_reducible refine (order_at.calls _ _ l0 x5_1 t329 t330 _ ?side1 ?side2 (gS HG) A4.out).mono ?_); (case side1 => repeat (first | exact (Kd.C_below HR0.out HB.out) | (with_reducible refine Kd.C_alloc ?_ _) | (with_reducible refine Kd.C_drewN ?_ _) | (with_reducible refine Kd.C_drew ?_))); (case side2 => exact HC0.out); rintro e w10 ⟨rfl, hb⟩; refine ⟨_, rfl, ?_⟩; replace HB := sB hb; (try clear hb)) | (refine gl (some 12) Tryd.func162 #[.slice A1 l1.length c1, .int .i64 x5_1] ?_; (with_reducible refine (order_at.calls _ _ l1 x5_1 t331 t332 _ ?side1 ?side2 (gS HG) A5.out).mono ?_); (case side1 => repeat (first | exact (Kd.C_below HR1.out HB.out) | (with_reducible refine Kd.C_alloc ?_ _) | (with_reducible refine Kd.C_drewN ?_ _) | (with_reducible refine Kd.C_drew ?_))); (case side2 => exact HC1.out); rintro e w11 ⟨rfl, hb⟩; refine ⟨_, rfl, ?_⟩; replace HB := sB hb; (try clear hb)) | (refine gl (some 13) Tryd.func161 #[.agg #[.int .i64 t329, .string t330], .agg #[.int .i64 t331, .string t332]] ?_; (with_reducible refine (order_word.calls k1 t329 t330 t331 t332 t333 _ (gS HG) A6.out).mono ?_); rintro e w12 ⟨rfl, hb⟩; refine ⟨_, rfl, ?_⟩; replace HB := sB hb; (try clear hb)))
   refine wp_goto (And.intro rfl ?_)
   refine hKs0 _ _ ?_
   go_roundg k1
   case measure => have := HK1.out; omega
   case rel => exact ⟨(wrap64 (x5_1 + 1)), cA, H', ⟨by have := HK1.out; omega⟩, ⟨bE⟩⟩
def chars_Digit.f (a0 : Int) : Option (Bool) := if a0 ≥ 48 then (some (decide (a0 ≤ 57))) else (some false)
theorem chars_Digit.calls (a0 : Int) (r : Bool) (w : World) (hG : Glob w) (h : chars_Digit.f a0 = some r) :
 Calls Tryd.prog 106 #[.int .u8 a0] w fun e w' => e = .returned (.bool r) ∧ Drawn0 w w' := by
 have HG := Aside0.mk hG
 clear hG
 have H : (if a0 ≥ 48 then (some (decide (a0 ≤ 57))) else (some false)) = some r := h
 clear h
 by_cases c2 : a0 ≥ 48
 rotate_left
 ·rw [if_neg c2] at H
  have c2b0 := dF c2
  clear c2
  obtain rfl := Option.some.inj H
  go_enter Tryd.func106, Tryd.ntmps106
  go_wp2
  go_ret
  exact ⟨by first | rfl | (simp; done) | (simp [*]; done), by repeat (first | exact Drawn0.refl _ | apply Drawn0.step)⟩
 rw [if_pos c2] at H
 have c2b0 := dT c2
 clear c2
 obtain rfl := Option.some.inj H
 go_enter Tryd.func106, Tryd.ntmps106
 go_wp2
 go_ret
 exact ⟨by first | rfl | (simp; done) | (simp [*]; done), by repeat (first | exact Drawn0.refl _ | apply Drawn0.step)⟩
def words_parts.l0 : Nat → ByteArray → List (S93) → Int → Int → Option ((List (S93)))
 | 0, _, _, _, _ => none
 | k + 1, x0, x3, x10, x11 => if x11 < x10 then (if 0 ≤ x11 then (if x11 < (x0.size : Int) then (if 0 ≤ (wrap64 ((x3.length : Int) - 1)) then (if (wrap64 ((x3.length : Int) - 1)) < (x3.length : Int) then (if (bt x0 x11) = 46 then (if x3.length < 5864062014805 then (words_parts.l0 k x0 (x3 ++ [(⟨(⟨#[]⟩ : ByteArray), ((bt x0 x11) == 45), false⟩ : S93)]) x10 (wrap64 (x11 + 1))) else (none)) else (if (bt x0 x11) = 45 then (if x3.length < 5864062014805 then (words_parts.l0 k x0 (x3 ++ [(⟨(⟨#[]⟩ : ByteArray), true, false⟩ : S93)]) x10 (wrap64 (x11 + 1))) else (none)) else (if ((rd_T93 x3 (wrap64 ((x3.length : Int) - 1))).f0).toList = ([] : List UInt8) then ((some (([bt x0 x11] : List Int) : List Int)).bind fun y123 => (if ((rd_T93 x3 (wrap64 ((x3.length : Int) - 1))).f0).size + (strOfNums y123).size ≤ 9223372036854775807 then (words_parts.l0 k x0 (x3.set ((wrap64 ((x3.length : Int) - 1)) : Int).toNat (⟨((rd_T93 x3 (wrap64 ((x3.length : Int) - 1))).f0) ++ (strOfNums y123), (rd_T93 x3 (wrap64 ((x3.length : Int) - 1))).f1, (rd_T93 x3 (wrap64 ((x3.length : Int) - 1))).f2⟩ : S93)) x10 (wrap64 (x11 + 1))) else (none))) else ((chars_Digit.f (bt x0 x11)).bind fun t127 => (if 0 ≤ (wrap64 (x11 - 1)) then (if (wrap64 (x11 - 1)) < (x0.size : Int) then ((chars_Digit.f (bt x0 (wrap64 (x11 - 1)))).bind fun t128 => (if (t127 != t128) = true then ((chars_Digit.f (bt x0 x11)).bind fun t129 => ((some (x3.set ((wrap64 ((x3.length : Int) - 1)) : Int).toNat (⟨(rd_T93 x3 (wrap64 ((x3.length : Int) - 1))).f0, (rd_T93 x3 (wrap64 ((x3.length : Int) - 1))).f1, t129⟩ : S93) : List (S93))).bind fun y130 => (if y130.length < 5864062014805 then ((some (y130 ++ [(⟨(⟨#[]⟩ : ByteArray), true, false⟩ : S93)] : List (S93))).bind fun y131 => (if 0 ≤ (wrap64 ((y131.length : Int) - 1)) then (if (wrap64 ((y131.length : Int) - 1)) < (y131.length : Int) then ((some (([bt x0 x11] : List Int) : List Int)).bind fun y135 => (if ((rd_T93 y131 (wrap64 ((y131.length : Int) - 1))).f0).size + (strOfNums y135).size ≤ 9223372036854775807 then (words_parts.l0 k x0 (y131.set ((wrap64 ((y131.length : Int) - 1)) : Int).toNat (⟨((rd_T93 y131 (wrap64 ((y131.length : Int) - 1))).f0) ++ (strOfNums y135), (rd_T93 y131 (wrap64 ((y131.length : Int) - 1))).f1, (rd_T93 y131 (wrap64 ((y131.length : Int) - 1))).f2⟩ : S93)) x10 (wrap64 (x11 + 1))) else (none))) else (none)) else (none))) else (none)))) else ((some (([bt x0 x11] : List Int) : List Int)).bind fun y140 => (if ((rd_T93 x3 (wrap64 ((x3.length : Int) - 1))).f0).size + (strOfNums y140).size ≤ 9223372036854775807 then (words_parts.l0 k x0 (x3.set ((wrap64 ((x3.length : Int) - 1)) : Int).toNat (⟨((rd_T93 x3 (wrap64 ((x3.length : Int) - 1))).f0) ++ (strOfNums y140), (rd_T93 x3 (wrap64 ((x3.length : Int) - 1))).f1, (rd_T93 x3 (wrap64 ((x3.length : Int) - 1))).f2⟩ : S93)) x10 (wrap64 (x11 + 1))) else (none))))) else (none)) else (none)))))) else (none)) else (none)) else (none)) else (none)) else (some x3)
def words_parts.f (k : Nat) (a0 : ByteArray) : Option ((List (S93))) := words_parts.l0 k a0 (([(⟨(⟨#[]⟩ : ByteArray), false, false⟩ : S93)] : List (S93))) (a0.size : Int) 0
def words_parts.T5 : Bool × List (List Nat × List Nat) := (true, [([], []), ([], []), ([0, 1], [0, 1]), ([], []), ([], []), ([4], [4]), ([5], [5]), ([3, 6], [3, 6]), ([2, 0, 1, 2], [2]), ([7, 8, 0, 1, 2, 3, 4, 5, 6, 7, 8], [7])])
def words_parts.B5 : List Nat := [0, 0, 3, 0, 0, 16, 48, 120, 7, 511]
theorem words_parts.tab5 : rtab .any (opsOf Tryd.f71 5) = words_parts.T5 := by kernel_rfl
theorem words_parts.bits5 : waitsOk words_parts.T5.2 words_parts.B5 = true := by kernel_rfl
def words_parts.T8 : Bool × List (List Nat × List Nat) := (true, [([], []), ([0], [0]), ([1], [1]), ([2], [2]), ([3], [3]), ([4], [4]), ([5], [5]), ([6, 5, 5], [5, 6]), ([5], [5]), ([5], [5]), ([9, 5], [5, 9]), ([8, 10, 5], [5, 8, 10]), ([11, 7, 5], [5, 11]), ([7, 12, 5], [5, 7, 12]), ([5, 13], [5, 13]), ([14, 12], [14])])
def words_parts.B8 : List Nat := [0, 1, 3, 7, 15, 31, 63, 127, 63, 63, 575, 1855, 4095, 8191, 16383, 32767]
theorem words_parts.tab8 : rtab .any (opsOf Tryd.f71 8) = words_parts.T8 := by kernel_rfl
theorem words_parts.bits8 : waitsOk words_parts.T8.2 words_parts.B8 = true := by kernel_rfl
def words_parts.T12 : Bool × List (List Nat × List Nat) := (true, [([], []), ([0], [0]), ([1], [1]), ([2], [2]), ([], []), ([4], [4]), ([5], [5]), ([3, 6], [3, 6]), ([0, 0, 1, 2, 3, 4, 5, 6, 7], [0]), ([8, 0, 1, 2, 3, 4, 5, 6, 7], [8]), ([9, 7, 0, 1, 2, 3, 4, 5, 6, 7], [7, 9])])
def words_parts.B12 : List Nat := [0, 1, 3, 7, 0, 16, 48, 127, 255, 511, 1023]
theorem words_parts.tab12 : rtab .any (opsOf Tryd.f71 12) = words_parts.T12 := by kernel_rfl
theorem words_parts.bits12 : waitsOk words_parts.T12.2 words_parts.B12 = true := by kernel_rfl
theorem words_parts.calls (k : Nat) (a0 : ByteArray) (r : List (S93)) (w : World) (hG : Glob w) (h : words_parts.f k a0 = some r) :
 Calls Tryd.prog 71 #[.string a0] w fun e w' => ∃ v0_ : Value, e = .returned (v0_) ∧ Kd.R k93 93 w' w.heap.size (fun _ => True) v0_ r ∧ Below w.heap.size w w' := by
 have hu93 := Tryd.underlying93
 have HG := Aside0.mk hG
 clear hG
 have HB := Aside0.mk (Below.refl w.heap.size w)
 have H : (words_parts.l0 k a0 (([(⟨(⟨#[]⟩ : ByteArray), false, false⟩ : S93)] : List (S93))) (a0.size : Int) 0) = some r := h
 clear h
 obtain ⟨y112, hy112⟩ : ∃ y_ : List (S93), y_ = (([(⟨(⟨#[]⟩ : ByteArray), false, false⟩ : S93)] : List (S93))) := ⟨_, rfl⟩
 replace H : (words_parts.l0 k a0 y112 (a0.size : Int) 0) = some r := by first | (rw [hy112]; with_reducible exact H) | (have H2_ := (Option.bind_some _ _).symm.trans H; rw [hy112]; with_reducible exact H2_) | (have H2_ := (Option.bind_some _ _).symm.trans H; with_reducible exact H2_) | with_reducible exact H | (rw [hy112]; exact H) | exact H
 have Ny112 := Aside0.mk hy112
 clear hy112
 have H' := Aside0.mk H
 clear H
 go_enter Tryd.func71, Tryd.ntmps71
 go_wp2_with (first | ((with_reducible refine gate_dst (N := 8) rfl ?_); refine Kd.R_lit k93 _ 93 ?hg (N := 8) ?hd (xs := ([(⟨(⟨#[]⟩ : ByteArray), false, false⟩ : S93)] : List (S93))) (inner := [.string (⟨#[]⟩ : ByteArray), .bool false, .bool false]) (ok := fun _ => True) (okp := fun _ => True) ?hr ?hp (fun _ hk => hk) trivial (Below.refl _ _) (Nat.le_refl _) (by simp) ?_; (case hd => rfl); (case hg => rfl); (case hr => first | (go_simp; done) | (go_simp; rfl)); (case hp => exact (Reps.c3 (show Kd.M k93 _ _ _ (⟨(⟨#[]⟩ : ByteArray), false, false⟩ : S93) [.string (⟨#[]⟩ : ByteArray), .bool false, .bool false] from (k93_mkM _ _ _ (⟨(⟨#[]⟩ : ByteArray), false, false⟩ : S93) )) (Reps.none _ _))); intro v113 w2 ho3 hb hg_ hnew_; clear hg_ hnew_; (first | rw [← Ny112.out] at ho3 | (simp only [Int.reduceToNat] at ho3; rw [← Ny112.out] at ho3)); have HO114 := Aside0.mk (Kd.R_lower ho3 (below_size bE)); replace HB := sB hb; clear hb ho3))
 (try simp only [Act.put, List.setIfInBounds_toArray, List.set_cons_zero, List.set_cons_succ])
 go_loopg [3, 11] k (fun kq v3 v11 w' => ∃ (x3_1 : List (S93)) (x11_1 : Int), v11 = .int .i64 x11_1 ∧ Aside0 (words_parts.l0 kq a0 x3_1 (a0.size : Int) x11_1 = some r) ∧ Aside0 (kq ≤ k) ∧ Aside0 (Kd.R k93 93 w' w.heap.size (fun _ => True) v3 x3_1) ∧ Aside0 (Below w.heap.size w w'))
 case atStart => exact ⟨(y112), (0), cA, H', ⟨Nat.le_refl _⟩, ⟨kR HO114⟩, ⟨bE⟩⟩
 clear H'
 try clear p2
 try clear c3
 obtain ⟨x3_1, x11_1, rfl, HA, HK1, HO_3, HB⟩ := hrel
 cases gk with
 | zero => exact absurd HA.out (by simp [words_parts.l0])
 | succ k1 =>
  have H := HA.out
  clear HA
  simp only [words_parts.l0] at H
  by_cases c4 : x11_1 < (a0.size : Int)
  rotate_left
  ·rw [if_neg c4] at H
   have c4b0 := dF c4
   clear c4
   obtain rfl := Option.some.inj H
   go_wp2
   go_ret
   exact ⟨_, by first | rfl | (simp [errW_none, errW_some] <;> rfl) | (simp [*, errW_none, errW_some] <;> rfl), by (with_reducible repeat (first | apply Kd.R_alloc | apply Kd.R_drewN | apply Kd.R_drew)); exact HO_3.out, bE⟩
  rw [if_pos c4] at H
  have c4b0 := dT c4
  clear c4
  obtain ⟨c5, H⟩ := gp H
  have c5b0 := dT c5
  clear c5
  obtain ⟨c6, H⟩ := gp H
  have c6b0 := dT c6
  clear c6
  obtain ⟨ji8, hji8⟩ : ∃ j_ : Int, (wrap64 ((x3_1.length : Int) - 1)) = j_ := ⟨_, rfl⟩
  rw [hji8] at H
  have hji8w : (IntKind.i64.wrap ((x3_1.length : Int) - 1)) = ji8 := (i64_w _).trans hji8
  obtain ⟨c9, H⟩ := gp H
  have c9b0 := dT c9
  clear c9
  obtain ⟨c10, H⟩ := gp H
  have c10b0 := dT c10
  clear c10
  by_cases c12 : (bt a0 x11_1) = 46
  ·rw [if_pos c12] at H
   obtain ⟨c12b0, c12b1⟩ := eqT c12
   clear c12
   obtain ⟨c13, H⟩ := gp H
   have LMc13 := Aside0.mk c13
   clear c13
   obtain ⟨y115, hy115⟩ : ∃ y_ : List (S93), y_ = (x3_1 ++ [(⟨(⟨#[]⟩ : ByteArray), ((bt a0 x11_1) == 45), false⟩ : S93)]) := ⟨_, rfl⟩
   replace H : (words_parts.l0 k1 a0 y115 (a0.size : Int) (wrap64 (x11_1 + 1))) = some r := by first | (rw [hy115]; with_reducible exact H) | (have H2_ := (Option.bind_some _ _).symm.trans H; rw [hy115]; with_reducible exact H2_) | (have H2_ := (Option.bind_some _ _).symm.trans H; with_reducible exact H2_) | with_reducible exact H | (rw [hy115]; exact H) | exact H
   have Ny115 := Aside0.mk hy115
   clear hy115
   have H' := Aside0.mk H
   clear H
   try go_wp2
   replace HO_3 := Aside0.mk (Kd.R_drew HO_3.out)
   replace HB := Aside0.mk (below_drew1 HB.out)
   have p7 : 0 ≤ (x11_1 : Int) := dA
   have q7 : x11_1 < (a0.size : Int) := dA
   have hx7 := bt_at a0 x11_1
   replace p7 := eq_true p7
   replace q7 := eq_true q7
   obtain ⟨Ao15, co15, eo15⟩ := Kd.R_slice HO_3.out
   (first | subst eo15 | (injection eo15 with f1_ f2_ f3_; have f4_ := f1_.symm; have f5_ := f3_.symm; clear f1_ f2_ f3_; subst f4_; subst f5_))
   have p11 : 0 ≤ ((ji8) : Int) := dA
   have q11 : ((ji8) : Int) < ((x3_1.length : Int) : Int) := dA
   obtain ⟨go11, co11, eo11, gb11, gl11, cl11, HG11⟩ := Kd.R_form HO_3.out (by omega)
   (first | cases eo11 | (injection eo11 with ea_ en_ ec_; (first | subst ea_ | (injection ea_ with ea_; subst ea_)); subst ec_; clear en_))
   have GB11 := Aside0.mk gb11
   have GG11 := Aside0.mk HG11
   clear gb11 gl11 HG11
   obtain ⟨ce11, hcl11, hM11, hcc11, hfr11⟩ := Kd.R_elem HO_3.out z93 ((ji8) : Int) p11 q11
   obtain rfl := k93_openM hM11
   have hx11_0 : World.cell? _ ⟨go11, ((ji8) : Int).toNat * 3, none⟩ = some (.string ((rd_T93 x3_1 (ji8)).f0)) := hcc11 0 _ rfl
   have hx11_1 : World.cell? _ ⟨go11, ((ji8) : Int).toNat * 3 + 1, none⟩ = some (.bool ((rd_T93 x3_1 (ji8)).f1)) := hcc11 1 _ rfl
   have hx11_2 : World.cell? _ ⟨go11, ((ji8) : Int).toNat * 3 + 2, none⟩ = some (.bool ((rd_T93 x3_1 (ji8)).f2)) := hcc11 2 _ rfl
   have hf11_0 : World.frozen? _ ⟨go11, ((ji8) : Int).toNat * 3, none⟩ = false := hfr11 0
   have hf11_1 : World.frozen? _ ⟨go11, ((ji8) : Int).toNat * 3 + 1, none⟩ = false := hfr11 1
   have hf11_2 : World.frozen? _ ⟨go11, ((ji8) : Int).toNat * 3 + 2, none⟩ = false := hfr11 2
   clear hcl11 hcc11 hfr11 hM11
   replace p11 := eq_true p11
   replace q11 := eq_true q11
   refine start_ (n := 10) (S := fun w' => True) (ds := []) #[false, false, false, false, false, false, false, false, false, false] (by kernel_rfl) rfl rfl trivial (fun hHeld => ?_); refine with_tabW words_parts.tab5 words_parts.bits5 (fun HT_ HW_ => ?_)
   generalize wr.drew = w14 at HO_3 HB GG11 hf11_0 hf11_1 hf11_2 hx11_0 hx11_1 hx11_2 hHeld ⊢
   refine pz 0 (some 14) HT_ ?_
   refine pz 1 (some 15) HT_ ?_
   refine pz 3 (some 17) HT_ ?_
   refine pz 4 (some 18) HT_ ?_
   refine pz 5 (some 19) HT_ ?_
   refine pz 6 (some 20) HT_ ?_
   refine pz 7 (some 21) HT_ ?_
   refine tk 2 (some 16) HT_ HW_ hHeld ?_
   refine pz 8 (some 5) HT_ ?_
   refine pz 9 (some 6) HT_ ?_
   refine done_ (done_of HT_.out (by kernel_rfl)) ?_
   try go_wp2_with (first | ((with_reducible refine gate_builtin (b := .append) (xs := #[.tmp 29, .tmp 33]) rfl ?_); at_builtin; refine Kd.R_append k93 (w0 := w) w.heap.size rfl (.tmp 29) (.tmp 33) 87 93 (.agg #[(.string ⟨#[]⟩), (.bool false), (.bool false)]) 24 rfl Tryd.underlying87 info93 rfl (by decide) (by omega) (.slice (some ⟨go11, 0, none⟩) x3_1.length co15) x3_1 (⟨(⟨#[]⟩ : ByteArray), ((bt a0 x11_1) == 45), false⟩ : S93) [.string (⟨#[]⟩ : ByteArray), .bool ((bt a0 x11_1) == 45), .bool false] (fun _ => True) (fun _ => False) rfl rfl ?aP (fun _ hk => hk.elim) ?aF ?aO ?aB ?aS ?aL ?_; (case aP => exact k93_mkM _ _ _ (⟨(⟨#[]⟩ : ByteArray), ((bt a0 x11_1) == 45), false⟩ : S93)); (case aB => exact bE); (case aF => exact (fun _ _ => trivial)); (case aO => exact (kR HO_3)); (case aS => exact (below_size bE)); (case aL => have := LMc13.out; omega); intro v116 w16 ho hb hg hat; rw [← Ny115.out] at ho; replace HB := Aside0.mk (hb); have HO117 := Aside0.mk (ho); clear HO_3; clear ho hb hg hat))
   go_roundg k1
   case measure => have := HK1.out; omega
   case rel => exact ⟨(y115), (wrap64 (x11_1 + 1)), cA, H', ⟨by have := HK1.out; omega⟩, ⟨kR HO117⟩, ⟨bE⟩⟩
  rw [if_neg c12] at H
  obtain ⟨c12b0, c12b1⟩ := eqF c12
  by_cases c17 : (bt a0 x11_1) = 45
  ·rw [if_pos c17] at H
   obtain ⟨c17b0, c17b1⟩ := eqT c17
   clear c17
   obtain ⟨c18, H⟩ := gp H
   have LMc18 := Aside0.mk c18
   clear c18
   obtain ⟨y118, hy118⟩ : ∃ y_ : List (S93), y_ = (x3_1 ++ [(⟨(⟨#[]⟩ : ByteArray), true, false⟩ : S93)]) := ⟨_, rfl⟩
   replace H : (words_parts.l0 k1 a0 y118 (a0.size : Int) (wrap64 (x11_1 + 1))) = some r := by first | (rw [hy118]; with_reducible exact H) | (have H2_ := (Option.bind_some _ _).symm.trans H; rw [hy118]; with_reducible exact H2_) | (have H2_ := (Option.bind_some _ _).symm.trans H; with_reducible exact H2_) | with_reducible exact H | (rw [hy118]; exact H) | exact H
   have Ny118 := Aside0.mk hy118
   clear hy118
   have H' := Aside0.mk H
   clear H
   try go_wp2
   replace HO_3 := Aside0.mk (Kd.R_drew HO_3.out)
   replace HB := Aside0.mk (below_drew1 HB.out)
   have p7 : 0 ≤ (x11_1 : Int) := dA
   have q7 : x11_1 < (a0.size : Int) := dA
   have hx7 := bt_at a0 x11_1
   replace p7 := eq_true p7
   replace q7 := eq_true q7
   obtain ⟨Ao20, co20, eo20⟩ := Kd.R_slice HO_3.out
   (first | subst eo20 | (injection eo20 with f1_ f2_ f3_; have f4_ := f1_.symm; have f5_ := f3_.symm; clear f1_ f2_ f3_; subst f4_; subst f5_))
   have p11 : 0 ≤ ((ji8) : Int) := dA
   have q11 : ((ji8) : Int) < ((x3_1.length : Int) : Int) := dA
   obtain ⟨go11, co11, eo11, gb11, gl11, cl11, HG11⟩ := Kd.R_form HO_3.out (by omega)
   (first | cases eo11 | (injection eo11 with ea_ en_ ec_; (first | subst ea_ | (injection ea_ with ea_; subst ea_)); subst ec_; clear en_))
   have GB11 := Aside0.mk gb11
   have GG11 := Aside0.mk HG11
   clear gb11 gl11 HG11
   obtain ⟨ce11, hcl11, hM11, hcc11, hfr11⟩ := Kd.R_elem HO_3.out z93 ((ji8) : Int) p11 q11
   obtain rfl := k93_openM hM11
   have hx11_0 : World.cell? _ ⟨go11, ((ji8) : Int).toNat * 3, none⟩ = some (.string ((rd_T93 x3_1 (ji8)).f0)) := hcc11 0 _ rfl
   have hx11_1 : World.cell? _ ⟨go11, ((ji8) : Int).toNat * 3 + 1, none⟩ = some (.bool ((rd_T93 x3_1 (ji8)).f1)) := hcc11 1 _ rfl
   have hx11_2 : World.cell? _ ⟨go11, ((ji8) : Int).toNat * 3 + 2, none⟩ = some (.bool ((rd_T93 x3_1 (ji8)).f2)) := hcc11 2 _ rfl
   have hf11_0 : World.frozen? _ ⟨go11, ((ji8) : Int).toNat * 3, none⟩ = false := hfr11 0
   have hf11_1 : World.frozen? _ ⟨go11, ((ji8) : Int).toNat * 3 + 1, none⟩ = false := hfr11 1
   have hf11_2 : World.frozen? _ ⟨go11, ((ji8) : Int).toNat * 3 + 2, none⟩ = false := hfr11 2
   clear hcl11 hcc11 hfr11 hM11
   replace p11 := eq_true p11
   replace q11 := eq_true q11
   refine start_ (n := 10) (S := fun w' => True) (ds := []) #[false, false, false, false, false, false, false, false, false, false] (by kernel_rfl) rfl rfl trivial (fun hHeld => ?_); refine with_tabW words_parts.tab5 words_parts.bits5 (fun HT_ HW_ => ?_)
   generalize wr.drew = w19 at HO_3 HB GG11 hf11_0 hf11_1 hf11_2 hx11_0 hx11_1 hx11_2 hHeld ⊢
   refine pz 0 (some 14) HT_ ?_
   refine pz 1 (some 15) HT_ ?_
   refine pz 3 (some 17) HT_ ?_
   refine pz 4 (some 18) HT_ ?_
   refine pz 5 (some 19) HT_ ?_
   refine pz 6 (some 20) HT_ ?_
   refine pz 7 (some 21) HT_ ?_
   refine tk 2 (some 16) HT_ HW_ hHeld ?_
   refine pz 8 (some 5) HT_ ?_
   refine pz 9 (some 6) HT_ ?_
   refine done_ (done_of HT_.out (by kernel_rfl)) ?_
   try go_wp2_with (first | ((with_reducible refine gate_builtin (b := .append) (xs := #[.tmp 29, .tmp 33]) rfl ?_); at_builtin; refine Kd.R_append k93 (w0 := w) w.heap.size rfl (.tmp 29) (.tmp 33) 87 93 (.agg #[(.string ⟨#[]⟩), (.bool false), (.bool false)]) 24 rfl Tryd.underlying87 info93 rfl (by decide) (by omega) (.slice (some ⟨go11, 0, none⟩) x3_1.length co20) x3_1 (⟨(⟨#[]⟩ : ByteArray), true, false⟩ : S93) [.string (⟨#[]⟩ : ByteArray), .bool true, .bool false] (fun _ => True) (fun _ => False) rfl rfl ?aP (fun _ hk => hk.elim) ?aF ?aO ?aB ?aS ?aL ?_; (case aP => exact k93_mkM _ _ _ (⟨(⟨#[]⟩ : ByteArray), true, false⟩ : S93)); (case aB => exact bE); (case aF => exact (fun _ _ => trivial)); (case aO => exact (kR HO_3)); (case aS => exact (below_size bE)); (case aL => have := LMc18.out; omega); intro v119 w21 ho hb hg hat; rw [← Ny118.out] at ho; replace HB := Aside0.mk (hb); have HO120 := Aside0.mk (ho); clear HO_3; clear ho hb hg hat))
   go_roundg k1
   case measure => have := HK1.out; omega
   case rel => exact ⟨(y118), (wrap64 (x11_1 + 1)), cA, H', ⟨by have := HK1.out; omega⟩, ⟨kR HO120⟩, ⟨bE⟩⟩
  rw [if_neg c17] at H
  obtain ⟨c17b0, c17b1⟩ := eqF c17
  by_cases c22 : ((rd_T93 x3_1 (ji8)).f0).toList = ([] : List UInt8)
  ·rw [if_pos c22] at H
   obtain ⟨c22b0, c22b1⟩ := eqT c22
   (try (have c22b2 : (((rd_T93 x3_1 (ji8)).f0).toList).isEmpty = true := by simpa using c22))
   clear c22
   obtain ⟨y123, hy123⟩ : ∃ y_ : List Int, y_ = (([bt a0 x11_1] : List Int)) := ⟨_, rfl⟩
   replace H : (if ((rd_T93 x3_1 (ji8)).f0).size + (strOfNums y123).size ≤ 9223372036854775807 then (words_parts.l0 k1 a0 (x3_1.set ((ji8) : Int).toNat (⟨((rd_T93 x3_1 (ji8)).f0) ++ (strOfNums y123), (rd_T93 x3_1 (ji8)).f1, (rd_T93 x3_1 (ji8)).f2⟩ : S93)) (a0.size : Int) (wrap64 (x11_1 + 1))) else (none)) = some r := by first | (rw [hy123]; with_reducible exact H) | (have H2_ := (Option.bind_some _ _).symm.trans H; rw [hy123]; with_reducible exact H2_) | (have H2_ := (Option.bind_some _ _).symm.trans H; with_reducible exact H2_) | with_reducible exact H | (rw [hy123]; exact H) | exact H
   have Ny123 := Aside0.mk hy123
   clear hy123
   obtain ⟨c23, H⟩ := gp H
   have c23b0 := eq_true c23
   have c23b1 := dT c23
   try have c23b2 : (9223372036854775807 < ((rd_T93 x3_1 (ji8)).f0).size + (strOfNums y123).size) = False := eq_false (Nat.not_lt.2 c23)
   obtain ⟨y126, hy126⟩ : ∃ y_ : List (S93), y_ = (x3_1.set ((ji8) : Int).toNat (⟨((rd_T93 x3_1 (ji8)).f0) ++ (strOfNums y123), (rd_T93 x3_1 (ji8)).f1, (rd_T93 x3_1 (ji8)).f2⟩ : S93)) := ⟨_, rfl⟩
   replace H : (words_parts.l0 k1 a0 y126 (a0.size : Int) (wrap64 (x11_1 + 1))) = some r := by first | (rw [hy126]; with_reducible exact H) | (have H2_ := (Option.bind_some _ _).symm.trans H; rw [hy126]; with_reducible exact H2_) | (have H2_ := (Option.bind_some _ _).symm.trans H; with_reducible exact H2_) | with_reducible exact H | (rw [hy126]; exact H) | exact H
   have Ny126 := Aside0.mk hy126
   clear hy126
   have H' := Aside0.mk H
   clear H
   try go_wp2
   replace HO_3 := Aside0.mk (Kd.R_drew HO_3.out)
   replace HB := Aside0.mk (below_drew1 HB.out)
   have p7 : 0 ≤ (x11_1 : Int) := dA
   have q7 : x11_1 < (a0.size : Int) := dA
   have hx7 := bt_at a0 x11_1
   replace p7 := eq_true p7
   replace q7 := eq_true q7
   obtain ⟨Ao26, co26, eo26⟩ := Kd.R_slice HO_3.out
   (first | subst eo26 | (injection eo26 with f1_ f2_ f3_; have f4_ := f1_.symm; have f5_ := f3_.symm; clear f1_ f2_ f3_; subst f4_; subst f5_))
   have p11 : 0 ≤ ((ji8) : Int) := dA
   have q11 : ((ji8) : Int) < ((x3_1.length : Int) : Int) := dA
   obtain ⟨go11, co11, eo11, gb11, gl11, cl11, HG11⟩ := Kd.R_form HO_3.out (by omega)
   (first | cases eo11 | (injection eo11 with ea_ en_ ec_; (first | subst ea_ | (injection ea_ with ea_; subst ea_)); subst ec_; clear en_))
   have GB11 := Aside0.mk gb11
   have GG11 := Aside0.mk HG11
   clear gb11 gl11 HG11
   obtain ⟨ce11, hcl11, hM11, hcc11, hfr11⟩ := Kd.R_elem HO_3.out z93 ((ji8) : Int) p11 q11
   obtain rfl := k93_openM hM11
   have hx11_0 : World.cell? _ ⟨go11, ((ji8) : Int).toNat * 3, none⟩ = some (.string ((rd_T93 x3_1 (ji8)).f0)) := hcc11 0 _ rfl
   have hx11_1 : World.cell? _ ⟨go11, ((ji8) : Int).toNat * 3 + 1, none⟩ = some (.bool ((rd_T93 x3_1 (ji8)).f1)) := hcc11 1 _ rfl
   have hx11_2 : World.cell? _ ⟨go11, ((ji8) : Int).toNat * 3 + 2, none⟩ = some (.bool ((rd_T93 x3_1 (ji8)).f2)) := hcc11 2 _ rfl
   have hf11_0 : World.frozen? _ ⟨go11, ((ji8) : Int).toNat * 3, none⟩ = false := hfr11 0
   have hf11_1 : World.frozen? _ ⟨go11, ((ji8) : Int).toNat * 3 + 1, none⟩ = false := hfr11 1
   have hf11_2 : World.frozen? _ ⟨go11, ((ji8) : Int).toNat * 3 + 2, none⟩ = false := hfr11 2
   clear hcl11 hcc11 hfr11 hM11
   replace p11 := eq_true p11
   replace q11 := eq_true q11
   refine start_ (n := 10) (S := fun w' => True) (ds := []) #[false, false, false, false, false, false, false, false, false, false] (by kernel_rfl) rfl rfl trivial (fun hHeld => ?_); refine with_tabW words_parts.tab5 words_parts.bits5 (fun HT_ HW_ => ?_)
   generalize wr.drew = w25 at HO_3 HB GG11 hf11_0 hf11_1 hf11_2 hx11_0 hx11_1 hx11_2 hHeld ⊢
   refine pz 0 (some 14) HT_ ?_
   refine pz 1 (some 15) HT_ ?_
   refine pz 3 (some 17) HT_ ?_
   refine pz 4 (some 18) HT_ ?_
   refine pz 5 (some 19) HT_ ?_
   refine pz 6 (some 20) HT_ ?_
   refine pz 7 (some 21) HT_ ?_
   refine tk 2 (some 16) HT_ HW_ hHeld ?_
   refine pz 8 (some 5) HT_ ?_
   refine pz 9 (some 6) HT_ ?_
   refine done_ (done_of HT_.out (by kernel_rfl)) ?_
   try go_wp2
   replace HO_3 := Aside0.mk (Kd.R_drew HO_3.out)
   replace HB := Aside0.mk (below_drew1 HB.out)
   have p121 : 0 ≤ ((ji8) : Int) := dA
   have q121 : (ji8) < (x3_1.length : Int) := dA
   obtain ⟨ad121, e121, hx121_0, hx121_1, hx121_2⟩ := at_T93 (Kd.R_reads' HO_3.out).2.2 (ji8) p121 q121
   obtain rfl : (⟨go11, 0, none⟩ : Addr) = ad121 := (by injection e121)
   (first | simp only [add_plain] at hx121_0 | simp only [add_at] at hx121_0 | simp only [Addr.add, Nat.zero_add] at hx121_0 | skip)
   (first | simp only [add_plain] at hx121_1 | simp only [add_at] at hx121_1 | simp only [Addr.add, Nat.zero_add] at hx121_1 | skip)
   (first | simp only [add_plain] at hx121_2 | simp only [add_at] at hx121_2 | simp only [Addr.add, Nat.zero_add] at hx121_2 | skip)
   replace p121 := eq_true p121
   replace q121 := eq_true q121
   refine start_ (n := 16) (S := fun w' => w'.cell? ⟨go11, ((ji8)).toNat * 3, none⟩ = some (.string ((rd_T93 x3_1 (ji8)).f0)) ∧ w'.cell? ⟨go11, ((ji8)).toNat * 3 + 1, none⟩ = some (.bool ((rd_T93 x3_1 (ji8)).f1)) ∧ w'.cell? ⟨go11, ((ji8)).toNat * 3 + 2, none⟩ = some (.bool ((rd_T93 x3_1 (ji8)).f2))) (ds := []) #[false, false, false, false, false, false, false, false, false, false, false, false, false, false, false, false] (by kernel_rfl) rfl rfl ⟨hx121_0, hx121_1, hx121_2⟩ (fun hHeld => ?_); refine with_tabW words_parts.tab8 words_parts.bits8 (fun HT_ HW_ => ?_)
   generalize w25.drew = w27 at HO_3 HB hx121_0 hx121_1 hx121_2 hHeld ⊢
   refine pz 0 (some 36) HT_ ?_
   refine pz 1 (some 37) HT_ ?_
   refine pz 2 (some 38) HT_ ?_
   refine tm 3 (some 39) HT_ HW_ hHeld ?_
   refine pz 4 (some 40) HT_ ?_
   refine pz 5 (some 41) HT_ ?_
   refine pu 6 (some 42) HT_ ?_
   refine pu 7 (some 43) HT_ ?_
   refine pu 8 (some 44) HT_ ?_
   refine pu 9 (some 45) HT_ ?_
   refine pu 10 (some 46) HT_ ?_
   refine pu 11 (some 47) HT_ ?_
   refine pu 12 (some 48) HT_ ?_
   refine pu 13 (some 49) HT_ ?_
   refine pz 14 (some 50) HT_ ?_
   refine pz 15 (some 35) HT_ ?_
   refine done_ (done_of HT_.out (by kernel_rfl)) ?_
   try go_wp2
   replace HO_3 := Aside0.mk (Kd.R_drew HO_3.out)
   replace HB := Aside0.mk (below_drew1 HB.out)
   have p122 : 0 ≤ ((ji8) : Int) := dA
   have q122 : (ji8) < (x3_1.length : Int) := dA
   obtain ⟨ad122, e122, hx122_0, hx122_1, hx122_2⟩ := at_T93 (Kd.R_reads' HO_3.out).2.2 (ji8) p122 q122
   obtain rfl : (⟨go11, 0, none⟩ : Addr) = ad122 := (by injection e122)
   (first | simp only [add_plain] at hx122_0 | simp only [add_at] at hx122_0 | simp only [Addr.add, Nat.zero_add] at hx122_0 | skip)
   (first | simp only [add_plain] at hx122_1 | simp only [add_at] at hx122_1 | simp only [Addr.add, Nat.zero_add] at hx122_1 | skip)
   (first | simp only [add_plain] at hx122_2 | simp only [add_at] at hx122_2 | simp only [Addr.add, Nat.zero_add] at hx122_2 | skip)
   replace p122 := eq_true p122
   replace q122 := eq_true q122
   refine start_ (n := 11) (S := fun w' => w'.cell? ⟨go11, ((ji8)).toNat * 3, none⟩ = some (.string ((rd_T93 x3_1 (ji8)).f0)) ∧ w'.cell? ⟨go11, ((ji8)).toNat * 3 + 1, none⟩ = some (.bool ((rd_T93 x3_1 (ji8)).f1)) ∧ w'.cell? ⟨go11, ((ji8)).toNat * 3 + 2, none⟩ = some (.bool ((rd_T93 x3_1 (ji8)).f2))) (ds := [10]) #[false, false, false, false, false, false, false, false, false, false, false] (by kernel_rfl) rfl rfl ⟨hx122_0, hx122_1, hx122_2⟩ (fun hHeld => ?_); refine with_tabW words_parts.tab12 words_parts.bits12 (fun HT_ HW_ => ?_)
   generalize w27.drew = w28 at HO_3 HB hx122_0 hx122_1 hx122_2 hHeld ⊢
   refine pz 0 (some 65) HT_ ?_
   refine pz 1 (some 66) HT_ ?_
   refine pz 2 (some 67) HT_ ?_
   refine pz 4 (some 69) HT_ ?_
   refine tm 3 (some 68) HT_ HW_ hHeld ?_
   refine on 5 (some 70) HT_ (fun K hK => ?_)
   refine Kd.R_lit_step (Kd.int .u8) _ 5 ?hg (N := 70) ?hd (xs := ([bt a0 x11_1] : List Int)) (inner := [.int .u8 (bt a0 x11_1)]) (ok := fun _ => True) (okp := fun _ => True) ?hr ?hp (fun _ hk => hk) trivial (Below.refl _ _) (Nat.le_refl _) (by simp) ?_; (case hd => rfl); (case hg => rfl); (case hr => first | (go_simp; done) | (go_simp; rfl)); (case hp => exact (Reps.one (show Kd.M (Kd.int .u8) _ _ _ (bt a0 x11_1) [.int .u8 (bt a0 x11_1)] from rfl) (Reps.none _ _)))
   intro v124 w29 ho30 hb hg_ hnew_
   have HS0_ := (hb.cell (World.block_lt_of_cell? _ _ (hHeld.1))).trans (hHeld.1)
   have HS1_ := (hb.cell (World.block_lt_of_cell? _ _ (hHeld.2.1))).trans (hHeld.2.1)
   have HS2_ := (hb.cell (World.block_lt_of_cell? _ _ (hHeld.2.2))).trans (hHeld.2.2)
   clear hg_ hnew_
   (first | rw [← Ny123.out] at ho30 | (simp only [Int.reduceToNat] at ho30; rw [← Ny123.out] at ho30))
   replace HO_3 := rB HO_3 hb
   have HO125 := Aside0.mk (Kd.R_lower ho30 (below_size bE))
   replace HB := sB hb
   clear hb ho30
   have p24 : 0 ≤ ((ji8) : Int) := dA
   have q24 : ((ji8) : Int) < ((x3_1.length : Int) : Int) := dA
   obtain ⟨ce24, hcl24, hM24, hcc24, hfr24⟩ := Kd.R_elem HO_3.out z93 ((ji8) : Int) p24 q24
   obtain rfl := k93_openM hM24
   have hx24_0 : World.cell? _ ⟨go11, ((ji8) : Int).toNat * 3, none⟩ = some (.string ((rd_T93 x3_1 (ji8)).f0)) := hcc24 0 _ rfl
   have hx24_1 : World.cell? _ ⟨go11, ((ji8) : Int).toNat * 3 + 1, none⟩ = some (.bool ((rd_T93 x3_1 (ji8)).f1)) := hcc24 1 _ rfl
   have hx24_2 : World.cell? _ ⟨go11, ((ji8) : Int).toNat * 3 + 2, none⟩ = some (.bool ((rd_T93 x3_1 (ji8)).f2)) := hcc24 2 _ rfl
   have hf24_0 : World.frozen? _ ⟨go11, ((ji8) : Int).toNat * 3, none⟩ = false := hfr24 0
   have hf24_1 : World.frozen? _ ⟨go11, ((ji8) : Int).toNat * 3 + 1, none⟩ = false := hfr24 1
   have hf24_2 : World.frozen? _ ⟨go11, ((ji8) : Int).toNat * 3 + 2, none⟩ = false := hfr24 2
   clear hcl24 hcc24 hfr24 hM24
   replace p24 := eq_true p24
   replace q24 := eq_true q24
   obtain ⟨ce32, hcl32, hM32, hcc32, hfr32⟩ := Kd.R_elem HO_3.out z93 ((ji8) : Int) (dA) (by have h_ : ((ji8) : Int) < ((x3_1.length : Int) : Int) := dA; first | exact h_ | (have e_ := (Kd.R_reads' HO_3.out).1; omega) | simpa using h_)
   obtain rfl := k93_openM hM32
   have HP32 := (Kd.R_seg HO_3.out ((ji8) : Int) (dA) (by have h_ : ((ji8) : Int) < ((x3_1.length : Int) : Int) := dA; first | exact h_ | (have e_ := (Kd.R_reads' HO_3.out).1; omega) | simpa using h_) (seg := [.string (((rd_T93 x3_1 (ji8)).f0) ++ (strOfNums y123))]) (j := 0) hcl32 hcc32 (show 1 ≤ 3 from by decide) (x' := (⟨((rd_T93 x3_1 (ji8)).f0) ++ (strOfNums y123), (rd_T93 x3_1 (ji8)).f1, (rd_T93 x3_1 (ji8)).f2⟩ : S93)) (k93_mkM _ _ _ (⟨((rd_T93 x3_1 (ji8)).f0) ++ (strOfNums y123), (rd_T93 x3_1 (ji8)).f1, (rd_T93 x3_1 (ji8)).f2⟩ : S93) ) (fun _ hk => hk)).1
   rw [← Ny126.out] at HP32
   have HQ32 := Aside0.mk HP32
   clear hcl32 hcc32 hfr32 hM32 HP32
   refine hK.out _ _ ⟨HS0_, HS1_, HS2_⟩ (fun hHeld => ?_)
   clear hK K
   refine nz (some 70) ?_
   refine on 6 (some 71) HT_ (fun K hK => ?_)
   have hcv31 := own_string (P := Tryd.prog) Tryd.underlying30 Tryd.underlying5 Tryd.underlying9 (Kd.own_of_R HO125.out)
   refine value_ (w1 := ?_) (v := ?_) (by rfl) rfl ?_ ?_
   rotate_left 2
   ·go_simp
    constructor
    ·rfl
    ·rfl
   clear hcv31
   refine hK.out _ _ ⟨hHeld.1, hHeld.2.1, hHeld.2.2⟩ (fun hHeld => ?_)
   clear hK K
   refine nz (some 71) ?_
   refine pz 7 (some 72) HT_ ?_
   refine pz 8 (some 73) HT_ ?_
   refine pz 9 (some 74) HT_ ?_
   refine last_ (i := 10) (N := none) #[true, true, true, true, true, true, true, true, true, true, true] rfl rfl (one_of HT_.out (by kernel_rfl)) (by decide) (fun K hK => ?_)
   refine skip_ (w1 := ?_) (by rfl) rfl ?_ ?_
   rotate_left
   ·go_simp
    rfl
   refine hK.out _ _ ?_
   clear hK K
   refine done_ (done_of HT_.out (by kernel_rfl)) ?_
   try go_wp2
   go_roundg k1
   case measure => have := HK1.out; omega
   case rel => exact ⟨(y126), (wrap64 (x11_1 + 1)), cA, H', ⟨by have := HK1.out; omega⟩, ⟨by (with_reducible repeat (first | apply Kd.R_alloc | apply Kd.R_drewN | apply Kd.R_drew)); exact HQ32.out⟩, ⟨by repeat (first | (with_reducible first | exact HB.out | apply below_alloc | apply pw_below_drewN | apply below_drew1 | refine below_set ?_ GB11.out) | exact HB.out)⟩⟩
  rw [if_neg c22] at H
  obtain ⟨c22b0, c22b1⟩ := eqF c22
  (try (have c22b2 : (((rd_T93 x3_1 (ji8)).f0).toList).isEmpty = false := by simpa using c22))
  replace H := bi H
  obtain ⟨t127, A330, H⟩ := H
  try dsimp only at H
  have A33 := Aside0.mk A330
  clear A330
  obtain ⟨ji34, hji34⟩ : ∃ j_ : Int, (wrap64 (x11_1 - 1)) = j_ := ⟨_, rfl⟩
  rw [hji34] at H
  (try rw [hji34] at A33)
  have hji34w : (IntKind.i64.wrap (x11_1 - 1)) = ji34 := (i64_w _).trans hji34
  obtain ⟨c35, H⟩ := gp H
  have c35b0 := dT c35
  clear c35
  obtain ⟨c36, H⟩ := gp H
  have c36b0 := dT c36
  clear c36
  replace H := bi H
  obtain ⟨t128, A380, H⟩ := H
  try dsimp only at H
  have A38 := Aside0.mk A380
  clear A380
  by_cases c39 : (t127 != t128) = true
  rotate_left
  ·rw [if_neg c39] at H
   have c39b0 : (t127 != t128) = false := by simpa using c39
   (try (have c39b1 : decide (t127 = t128) = true := by simpa using c39))
   (try (have c39b2 : (t127 == t128) = true := by simpa using c39))
   clear c39
   obtain ⟨y140, hy140⟩ : ∃ y_ : List Int, y_ = (([bt a0 x11_1] : List Int)) := ⟨_, rfl⟩
   replace H : (if ((rd_T93 x3_1 (ji8)).f0).size + (strOfNums y140).size ≤ 9223372036854775807 then (words_parts.l0 k1 a0 (x3_1.set ((ji8) : Int).toNat (⟨((rd_T93 x3_1 (ji8)).f0) ++ (strOfNums y140), (rd_T93 x3_1 (ji8)).f1, (rd_T93 x3_1 (ji8)).f2⟩ : S93)) (a0.size : Int) (wrap64 (x11_1 + 1))) else (none)) = some r := by first | (rw [hy140]; with_reducible exact H) | (have H2_ := (Option.bind_some _ _).symm.trans H; rw [hy140]; with_reducible exact H2_) | (have H2_ := (Option.bind_some _ _).symm.trans H; with_reducible exact H2_) | with_reducible exact H | (rw [hy140]; exact H) | exact H
   have Ny140 := Aside0.mk hy140
   clear hy140
   obtain ⟨c61, H⟩ := gp H
   have c61b0 := eq_true c61
   have c61b1 := dT c61
   try have c61b2 : (9223372036854775807 < ((rd_T93 x3_1 (ji8)).f0).size + (strOfNums y140).size) = False := eq_false (Nat.not_lt.2 c61)
   obtain ⟨y143, hy143⟩ : ∃ y_ : List (S93), y_ = (x3_1.set ((ji8) : Int).toNat (⟨((rd_T93 x3_1 (ji8)).f0) ++ (strOfNums y140), (rd_T93 x3_1 (ji8)).f1, (rd_T93 x3_1 (ji8)).f2⟩ : S93)) := ⟨_, rfl⟩
   replace H : (words_parts.l0 k1 a0 y143 (a0.size : Int) (wrap64 (x11_1 + 1))) = some r := by first | (rw [hy143]; with_reducible exact H) | (have H2_ := (Option.bind_some _ _).symm.trans H; rw [hy143]; with_reducible exact H2_) | (have H2_ := (Option.bind_some _ _).symm.trans H; with_reducible exact H2_) | with_reducible exact H | (rw [hy143]; exact H) | exact H
   have Ny143 := Aside0.mk hy143
   clear hy143
   have H' := Aside0.mk H
   clear H
   try go_wp2
   replace HO_3 := Aside0.mk (Kd.R_drew HO_3.out)
   replace HB := Aside0.mk (below_drew1 HB.out)
   have p7 : 0 ≤ (x11_1 : Int) := dA
   have q7 : x11_1 < (a0.size : Int) := dA
   have hx7 := bt_at a0 x11_1
   replace p7 := eq_true p7
   replace q7 := eq_true q7
   obtain ⟨Ao64, co64, eo64⟩ := Kd.R_slice HO_3.out
   (first | subst eo64 | (injection eo64 with f1_ f2_ f3_; have f4_ := f1_.symm; have f5_ := f3_.symm; clear f1_ f2_ f3_; subst f4_; subst f5_))
   have p11 : 0 ≤ ((ji8) : Int) := dA
   have q11 : ((ji8) : Int) < ((x3_1.length : Int) : Int) := dA
   obtain ⟨go11, co11, eo11, gb11, gl11, cl11, HG11⟩ := Kd.R_form HO_3.out (by omega)
   (first | cases eo11 | (injection eo11 with ea_ en_ ec_; (first | subst ea_ | (injection ea_ with ea_; subst ea_)); subst ec_; clear en_))
   have GB11 := Aside0.mk gb11
   have GG11 := Aside0.mk HG11
   clear gb11 gl11 HG11
   obtain ⟨ce11, hcl11, hM11, hcc11, hfr11⟩ := Kd.R_elem HO_3.out z93 ((ji8) : Int) p11 q11
   obtain rfl := k93_openM hM11
   have hx11_0 : World.cell? _ ⟨go11, ((ji8) : Int).toNat * 3, none⟩ = some (.string ((rd_T93 x3_1 (ji8)).f0)) := hcc11 0 _ rfl
   have hx11_1 : World.cell? _ ⟨go11, ((ji8) : Int).toNat * 3 + 1, none⟩ = some (.bool ((rd_T93 x3_1 (ji8)).f1)) := hcc11 1 _ rfl
   have hx11_2 : World.cell? _ ⟨go11, ((ji8) : Int).toNat * 3 + 2, none⟩ = some (.bool ((rd_T93 x3_1 (ji8)).f2)) := hcc11 2 _ rfl
   have hf11_0 : World.frozen? _ ⟨go11, ((ji8) : Int).toNat * 3, none⟩ = false := hfr11 0
   have hf11_1 : World.frozen? _ ⟨go11, ((ji8) : Int).toNat * 3 + 1, none⟩ = false := hfr11 1
   have hf11_2 : World.frozen? _ ⟨go11, ((ji8) : Int).toNat * 3 + 2, none⟩ = false := hfr11 2
   clear hcl11 hcc11 hfr11 hM11
   replace p11 := eq_true p11
   replace q11 := eq_true q11
   refine start_ (n := 10) (S := fun w' => True) (ds := []) #[false, false, false, false, false, false, false, false, false, false] (by kernel_rfl) rfl rfl trivial (fun hHeld => ?_); refine with_tabW words_parts.tab5 words_parts.bits5 (fun HT_ HW_ => ?_)
   generalize wr.drew = w63 at HO_3 HB GG11 hf11_0 hf11_1 hf11_2 hx11_0 hx11_1 hx11_2 hHeld ⊢
   refine pz 0 (some 14) HT_ ?_
   refine pz 1 (some 15) HT_ ?_
   refine pz 3 (some 17) HT_ ?_
   refine pz 4 (some 18) HT_ ?_
   refine pz 5 (some 19) HT_ ?_
   refine pz 6 (some 20) HT_ ?_
   refine pz 7 (some 21) HT_ ?_
   refine tk 2 (some 16) HT_ HW_ hHeld ?_
   refine pz 8 (some 5) HT_ ?_
   refine pz 9 (some 6) HT_ ?_
   refine done_ (done_of HT_.out (by kernel_rfl)) ?_
   try go_wp2
   replace HO_3 := Aside0.mk (Kd.R_drew HO_3.out)
   replace HB := Aside0.mk (below_drew1 HB.out)
   have p121 : 0 ≤ ((ji8) : Int) := dA
   have q121 : (ji8) < (x3_1.length : Int) := dA
   obtain ⟨ad121, e121, hx121_0, hx121_1, hx121_2⟩ := at_T93 (Kd.R_reads' HO_3.out).2.2 (ji8) p121 q121
   obtain rfl : (⟨go11, 0, none⟩ : Addr) = ad121 := (by injection e121)
   (first | simp only [add_plain] at hx121_0 | simp only [add_at] at hx121_0 | simp only [Addr.add, Nat.zero_add] at hx121_0 | skip)
   (first | simp only [add_plain] at hx121_1 | simp only [add_at] at hx121_1 | simp only [Addr.add, Nat.zero_add] at hx121_1 | skip)
   (first | simp only [add_plain] at hx121_2 | simp only [add_at] at hx121_2 | simp only [Addr.add, Nat.zero_add] at hx121_2 | skip)
   replace p121 := eq_true p121
   replace q121 := eq_true q121
   have p37 : 0 ≤ ((ji34) : Int) := dA
   have q37 : (ji34) < (a0.size : Int) := dA
   have hx37 := bt_at a0 (ji34)
   replace p37 := eq_true p37
   replace q37 := eq_true q37
   refine start_ (n := 16) (S := fun w' => w'.cell? ⟨go11, ((ji8)).toNat * 3, none⟩ = some (.string ((rd_T93 x3_1 (ji8)).f0)) ∧ w'.cell? ⟨go11, ((ji8)).toNat * 3 + 1, none⟩ = some (.bool ((rd_T93 x3_1 (ji8)).f1)) ∧ w'.cell? ⟨go11, ((ji8)).toNat * 3 + 2, none⟩ = some (.bool ((rd_T93 x3_1 (ji8)).f2))) (ds := []) #[false, false, false, false, false, false, false, false, false, false, false, false, false, false, false, false] (by kernel_rfl) rfl rfl ⟨hx121_0, hx121_1, hx121_2⟩ (fun hHeld => ?_); refine with_tabW words_parts.tab8 words_parts.bits8 (fun HT_ HW_ => ?_)
   generalize w63.drew = w65 at HO_3 HB hx121_0 hx121_1 hx121_2 hHeld ⊢
   refine pz 0 (some 36) HT_ ?_
   refine pz 1 (some 37) HT_ ?_
   refine pz 2 (some 38) HT_ ?_
   refine tm 3 (some 39) HT_ HW_ hHeld ?_
   refine pz 4 (some 40) HT_ ?_
   refine pz 5 (some 41) HT_ ?_
   refine pz 6 (some 42) HT_ ?_
   refine pz 8 (some 44) HT_ ?_
   refine pz 9 (some 45) HT_ ?_
   refine pz 10 (some 46) HT_ ?_
   refine tm 11 (some 47) HT_ HW_ hHeld ?_
   refine on 7 (some 43) HT_ (fun K hK => ?_)
   refine goes_ Tryd.func106 (by kernel_rfl) rfl #[.int .u8 (bt a0 x11_1)] (by rfl) rfl rfl mA ?_
   with_reducible refine (chars_Digit.calls (bt a0 x11_1) t127 _ (gS HG) A33.out).mono ?_
   rintro e w' ⟨rfl, ⟨nd, rfl⟩⟩
   refine ⟨_, rfl, ?_⟩
   refine hK.out _ _ ⟨hHeld.1, hHeld.2.1, hHeld.2.2⟩ (fun hHeld => ?_)
   clear hK K
   refine nz (some 43) ?_
   refine on 12 (some 48) HT_ (fun K hK => ?_)
   refine goes_ Tryd.func106 (by kernel_rfl) rfl #[.int .u8 (bt a0 (ji34))] (by rfl) rfl rfl (by (try simp only [List.map_toArray, List.map_cons, List.map_nil]); first | done | (simp only [hji34]; rfl) | rfl | (simp only [List.length_drop, List.length_take]; rfl)) ?_
   with_reducible refine (chars_Digit.calls (bt a0 (ji34)) t128 _ (gS HG) A38.out).mono ?_
   rintro e w' ⟨rfl, ⟨nd, rfl⟩⟩
   refine ⟨_, rfl, ?_⟩
   refine hK.out _ _ ⟨hHeld.1, hHeld.2.1, hHeld.2.2⟩ (fun hHeld => ?_)
   clear hK K
   refine nz (some 48) ?_
   refine pz 13 (some 49) HT_ ?_
   refine pz 14 (some 50) HT_ ?_
   refine pz 15 (some 35) HT_ ?_
   refine done_ (done_of HT_.out (by kernel_rfl)) ?_
   try go_wp2
   (try ((try simp only [World.drewN_drewN]); (first | generalize hq_ : World.drewN w65 _ = w65 | (rw [drewN_self w65]; generalize hq_ : World.drewN w65 _ = w65)); have n0_ : Aside0 (Kd.R k93 93 w65 w.heap.size (fun _ => True) (.slice (some ⟨go11, 0, none⟩) x3_1.length co64) x3_1) := ⟨by rw [← hq_]; exact (kR HO_3)⟩; have n1_ : Aside0 (Below w.heap.size w w65) := ⟨by rw [← hq_]; exact bE⟩; clear HO_3 HB hq_; have HO_3 := n0_; have HB := n1_; clear n0_ n1_))
   replace HO_3 := Aside0.mk (Kd.R_drew HO_3.out)
   replace HB := Aside0.mk (below_drew1 HB.out)
   have p139 : 0 ≤ ((ji8) : Int) := dA
   have q139 : (ji8) < (x3_1.length : Int) := dA
   obtain ⟨ad139, e139, hx139_0, hx139_1, hx139_2⟩ := at_T93 (Kd.R_reads' HO_3.out).2.2 (ji8) p139 q139
   obtain rfl : (⟨go11, 0, none⟩ : Addr) = ad139 := (by injection e139)
   (first | simp only [add_plain] at hx139_0 | simp only [add_at] at hx139_0 | simp only [Addr.add, Nat.zero_add] at hx139_0 | skip)
   (first | simp only [add_plain] at hx139_1 | simp only [add_at] at hx139_1 | simp only [Addr.add, Nat.zero_add] at hx139_1 | skip)
   (first | simp only [add_plain] at hx139_2 | simp only [add_at] at hx139_2 | simp only [Addr.add, Nat.zero_add] at hx139_2 | skip)
   replace p139 := eq_true p139
   replace q139 := eq_true q139
   refine start_ (n := 11) (S := fun w' => w'.cell? ⟨go11, ((ji8)).toNat * 3, none⟩ = some (.string ((rd_T93 x3_1 (ji8)).f0)) ∧ w'.cell? ⟨go11, ((ji8)).toNat * 3 + 1, none⟩ = some (.bool ((rd_T93 x3_1 (ji8)).f1)) ∧ w'.cell? ⟨go11, ((ji8)).toNat * 3 + 2, none⟩ = some (.bool ((rd_T93 x3_1 (ji8)).f2))) (ds := [10]) #[false, false, false, false, false, false, false, false, false, false, false] (by kernel_rfl) rfl rfl ⟨hx139_0, hx139_1, hx139_2⟩ (fun hHeld => ?_); refine with_tabW words_parts.tab12 words_parts.bits12 (fun HT_ HW_ => ?_)
   generalize w65.drew = w66 at HO_3 HB hx139_0 hx139_1 hx139_2 hHeld ⊢
   refine pz 0 (some 65) HT_ ?_
   refine pz 1 (some 66) HT_ ?_
   refine pz 2 (some 67) HT_ ?_
   refine pz 4 (some 69) HT_ ?_
   refine tm 3 (some 68) HT_ HW_ hHeld ?_
   refine on 5 (some 70) HT_ (fun K hK => ?_)
   refine Kd.R_lit_step (Kd.int .u8) _ 5 ?hg (N := 70) ?hd (xs := ([bt a0 x11_1] : List Int)) (inner := [.int .u8 (bt a0 x11_1)]) (ok := fun _ => True) (okp := fun _ => True) ?hr ?hp (fun _ hk => hk) trivial (Below.refl _ _) (Nat.le_refl _) (by simp) ?_; (case hd => rfl); (case hg => rfl); (case hr => first | (go_simp; done) | (go_simp; rfl)); (case hp => exact (Reps.one (show Kd.M (Kd.int .u8) _ _ _ (bt a0 x11_1) [.int .u8 (bt a0 x11_1)] from rfl) (Reps.none _ _)))
   intro v141 w67 ho68 hb hg_ hnew_
   have HS0_ := (hb.cell (World.block_lt_of_cell? _ _ (hHeld.1))).trans (hHeld.1)
   have HS1_ := (hb.cell (World.block_lt_of_cell? _ _ (hHeld.2.1))).trans (hHeld.2.1)
   have HS2_ := (hb.cell (World.block_lt_of_cell? _ _ (hHeld.2.2))).trans (hHeld.2.2)
   clear hg_ hnew_
   (first | rw [← Ny140.out] at ho68 | (simp only [Int.reduceToNat] at ho68; rw [← Ny140.out] at ho68))
   replace HO_3 := rB HO_3 hb
   have HO142 := Aside0.mk (Kd.R_lower ho68 (below_size bE))
   replace HB := sB hb
   clear hb ho68
   have p62 : 0 ≤ ((ji8) : Int) := dA
   have q62 : ((ji8) : Int) < ((x3_1.length : Int) : Int) := dA
   obtain ⟨ce62, hcl62, hM62, hcc62, hfr62⟩ := Kd.R_elem HO_3.out z93 ((ji8) : Int) p62 q62
   obtain rfl := k93_openM hM62
   have hx62_0 : World.cell? _ ⟨go11, ((ji8) : Int).toNat * 3, none⟩ = some (.string ((rd_T93 x3_1 (ji8)).f0)) := hcc62 0 _ rfl
   have hx62_1 : World.cell? _ ⟨go11, ((ji8) : Int).toNat * 3 + 1, none⟩ = some (.bool ((rd_T93 x3_1 (ji8)).f1)) := hcc62 1 _ rfl
   have hx62_2 : World.cell? _ ⟨go11, ((ji8) : Int).toNat * 3 + 2, none⟩ = some (.bool ((rd_T93 x3_1 (ji8)).f2)) := hcc62 2 _ rfl
   have hf62_0 : World.frozen? _ ⟨go11, ((ji8) : Int).toNat * 3, none⟩ = false := hfr62 0
   have hf62_1 : World.frozen? _ ⟨go11, ((ji8) : Int).toNat * 3 + 1, none⟩ = false := hfr62 1
   have hf62_2 : World.frozen? _ ⟨go11, ((ji8) : Int).toNat * 3 + 2, none⟩ = false := hfr62 2
   clear hcl62 hcc62 hfr62 hM62
   replace p62 := eq_true p62
   replace q62 := eq_true q62
   obtain ⟨ce70, hcl70, hM70, hcc70, hfr70⟩ := Kd.R_elem HO_3.out z93 ((ji8) : Int) (dA) (by have h_ : ((ji8) : Int) < ((x3_1.length : Int) : Int) := dA; first | exact h_ | (have e_ := (Kd.R_reads' HO_3.out).1; omega) | simpa using h_)
   obtain rfl := k93_openM hM70
   have HP70 := (Kd.R_seg HO_3.out ((ji8) : Int) (dA) (by have h_ : ((ji8) : Int) < ((x3_1.length : Int) : Int) := dA; first | exact h_ | (have e_ := (Kd.R_reads' HO_3.out).1; omega) | simpa using h_) (seg := [.string (((rd_T93 x3_1 (ji8)).f0) ++ (strOfNums y140))]) (j := 0) hcl70 hcc70 (show 1 ≤ 3 from by decide) (x' := (⟨((rd_T93 x3_1 (ji8)).f0) ++ (strOfNums y140), (rd_T93 x3_1 (ji8)).f1, (rd_T93 x3_1 (ji8)).f2⟩ : S93)) (k93_mkM _ _ _ (⟨((rd_T93 x3_1 (ji8)).f0) ++ (strOfNums y140), (rd_T93 x3_1 (ji8)).f1, (rd_T93 x3_1 (ji8)).f2⟩ : S93) ) (fun _ hk => hk)).1
   rw [← Ny143.out] at HP70
   have HQ70 := Aside0.mk HP70
   clear hcl70 hcc70 hfr70 hM70 HP70
   refine hK.out _ _ ⟨HS0_, HS1_, HS2_⟩ (fun hHeld => ?_)
   clear hK K
   refine nz (some 70) ?_
   refine on 6 (some 71) HT_ (fun K hK => ?_)
   have hcv69 := own_string (P := Tryd.prog) Tryd.underlying30 Tryd.underlying5 Tryd.underlying9 (Kd.own_of_R HO142.out)
   refine value_ (w1 := ?_) (v := ?_) (by rfl) rfl ?_ ?_
   rotate_left 2
   ·go_simp
    constructor
    ·rfl
    ·rfl
   clear hcv69
   refine hK.out _ _ ⟨hHeld.1, hHeld.2.1, hHeld.2.2⟩ (fun hHeld => ?_)
   clear hK K
   refine nz (some 71) ?_
   refine pz 7 (some 72) HT_ ?_
   refine pz 8 (some 73) HT_ ?_
   refine pz 9 (some 74) HT_ ?_
   refine last_ (i := 10) (N := none) #[true, true, true, true, true, true, true, true, true, true, true] rfl rfl (one_of HT_.out (by kernel_rfl)) (by decide) (fun K hK => ?_)
   refine skip_ (w1 := ?_) (by rfl) rfl ?_ ?_
   rotate_left
   ·go_simp
    rfl
   refine hK.out _ _ ?_
   clear hK K
   refine done_ (done_of HT_.out (by kernel_rfl)) ?_
   try go_wp2
   go_roundg k1
   case measure => have := HK1.out; omega
   case rel => exact ⟨(y143), (wrap64 (x11_1 + 1)), cA, H', ⟨by have := HK1.out; omega⟩, ⟨by (with_reducible repeat (first | apply Kd.R_alloc | apply Kd.R_drewN | apply Kd.R_drew)); exact HQ70.out⟩, ⟨by repeat (first | (with_reducible first | exact HB.out | apply below_alloc | apply pw_below_drewN | apply below_drew1 | refine below_set ?_ GB11.out) | exact HB.out)⟩⟩
  rw [if_pos c39] at H
  have c39b0 : (t127 != t128) = true := c39
  (try (have c39b1 : decide (t127 = t128) = false := by simpa using c39))
  (try (have c39b2 : (t127 == t128) = false := by simpa using c39))
  (try (have c39b3 : ¬ (t127 = t128) := by simpa using c39))
  clear c39
  replace H := bi H
  obtain ⟨t129, A400, H⟩ := H
  try dsimp only at H
  have A40 := Aside0.mk A400
  clear A400
  obtain ⟨y130, hy130⟩ : ∃ y_ : List (S93), y_ = (x3_1.set ((ji8) : Int).toNat (⟨(rd_T93 x3_1 (ji8)).f0, (rd_T93 x3_1 (ji8)).f1, t129⟩ : S93)) := ⟨_, rfl⟩
  replace H : (if y130.length < 5864062014805 then ((some (y130 ++ [(⟨(⟨#[]⟩ : ByteArray), true, false⟩ : S93)] : List (S93))).bind fun y131 => (if 0 ≤ (wrap64 ((y131.length : Int) - 1)) then (if (wrap64 ((y131.length : Int) - 1)) < (y131.length : Int) then ((some (([bt a0 x11_1] : List Int) : List Int)).bind fun y135 => (if ((rd_T93 y131 (wrap64 ((y131.length : Int) - 1))).f0).size + (strOfNums y135).size ≤ 9223372036854775807 then (words_parts.l0 k1 a0 (y131.set ((wrap64 ((y131.length : Int) - 1)) : Int).toNat (⟨((rd_T93 y131 (wrap64 ((y131.length : Int) - 1))).f0) ++ (strOfNums y135), (rd_T93 y131 (wrap64 ((y131.length : Int) - 1))).f1, (rd_T93 y131 (wrap64 ((y131.length : Int) - 1))).f2⟩ : S93)) (a0.size : Int) (wrap64 (x11_1 + 1))) else (none))) else (none)) else (none))) else (none)) = some r := by first | (rw [hy130]; with_reducible exact H) | (have H2_ := (Option.bind_some _ _).symm.trans H; rw [hy130]; with_reducible exact H2_) | (have H2_ := (Option.bind_some _ _).symm.trans H; with_reducible exact H2_) | with_reducible exact H | (rw [hy130]; exact H) | exact H
  have Ny130 := Aside0.mk hy130
  clear hy130
  obtain ⟨c42, H⟩ := gp H
  have LMc42 := Aside0.mk c42
  clear c42
  obtain ⟨y131, hy131⟩ : ∃ y_ : List (S93), y_ = (y130 ++ [(⟨(⟨#[]⟩ : ByteArray), true, false⟩ : S93)]) := ⟨_, rfl⟩
  replace H : (if 0 ≤ (wrap64 ((y131.length : Int) - 1)) then (if (wrap64 ((y131.length : Int) - 1)) < (y131.length : Int) then ((some (([bt a0 x11_1] : List Int) : List Int)).bind fun y135 => (if ((rd_T93 y131 (wrap64 ((y131.length : Int) - 1))).f0).size + (strOfNums y135).size ≤ 9223372036854775807 then (words_parts.l0 k1 a0 (y131.set ((wrap64 ((y131.length : Int) - 1)) : Int).toNat (⟨((rd_T93 y131 (wrap64 ((y131.length : Int) - 1))).f0) ++ (strOfNums y135), (rd_T93 y131 (wrap64 ((y131.length : Int) - 1))).f1, (rd_T93 y131 (wrap64 ((y131.length : Int) - 1))).f2⟩ : S93)) (a0.size : Int) (wrap64 (x11_1 + 1))) else (none))) else (none)) else (none)) = some r := by first | (rw [hy131]; with_reducible exact H) | (have H2_ := (Option.bind_some _ _).symm.trans H; rw [hy131]; with_reducible exact H2_) | (have H2_ := (Option.bind_some _ _).symm.trans H; with_reducible exact H2_) | with_reducible exact H | (rw [hy131]; exact H) | exact H
  have Ny131 := Aside0.mk hy131
  clear hy131
  obtain ⟨ji43, hji43⟩ : ∃ j_ : Int, (wrap64 ((y131.length : Int) - 1)) = j_ := ⟨_, rfl⟩
  rw [hji43] at H
  (try rw [hji43] at A33)
  (try rw [hji43] at A38)
  (try rw [hji43] at A40)
  have hji43w : (IntKind.i64.wrap ((y131.length : Int) - 1)) = ji43 := (i64_w _).trans hji43
  obtain ⟨c44, H⟩ := gp H
  have c44b0 := dT c44
  clear c44
  obtain ⟨c45, H⟩ := gp H
  have c45b0 := dT c45
  clear c45
  obtain ⟨y135, hy135⟩ : ∃ y_ : List Int, y_ = (([bt a0 x11_1] : List Int)) := ⟨_, rfl⟩
  replace H : (if ((rd_T93 y131 (ji43)).f0).size + (strOfNums y135).size ≤ 9223372036854775807 then (words_parts.l0 k1 a0 (y131.set ((ji43) : Int).toNat (⟨((rd_T93 y131 (ji43)).f0) ++ (strOfNums y135), (rd_T93 y131 (ji43)).f1, (rd_T93 y131 (ji43)).f2⟩ : S93)) (a0.size : Int) (wrap64 (x11_1 + 1))) else (none)) = some r := by first | (rw [hy135]; with_reducible exact H) | (have H2_ := (Option.bind_some _ _).symm.trans H; rw [hy135]; with_reducible exact H2_) | (have H2_ := (Option.bind_some _ _).symm.trans H; with_reducible exact H2_) | with_reducible exact H | (rw [hy135]; exact H) | exact H
  have Ny135 := Aside0.mk hy135
  clear hy135
  obtain ⟨c47, H⟩ := gp H
  have c47b0 := eq_true c47
  have c47b1 := dT c47
  try have c47b2 : (9223372036854775807 < ((rd_T93 y131 (ji43)).f0).size + (strOfNums y135).size) = False := eq_false (Nat.not_lt.2 c47)
  obtain ⟨y138, hy138⟩ : ∃ y_ : List (S93), y_ = (y131.set ((ji43) : Int).toNat (⟨((rd_T93 y131 (ji43)).f0) ++ (strOfNums y135), (rd_T93 y131 (ji43)).f1, (rd_T93 y131 (ji43)).f2⟩ : S93)) := ⟨_, rfl⟩
  replace H : (words_parts.l0 k1 a0 y138 (a0.size : Int) (wrap64 (x11_1 + 1))) = some r := by first | (rw [hy138]; with_reducible exact H) | (have H2_ := (Option.bind_some _ _).symm.trans H; rw [hy138]; with_reducible exact H2_) | (have H2_ := (Option.bind_some _ _).symm.trans H; with_reducible exact H2_) | with_reducible exact H | (rw [hy138]; exact H) | exact H
  have Ny138 := Aside0.mk hy138
  clear hy138
  have H' := Aside0.mk H
  clear H
  try go_wp2
  replace HO_3 := Aside0.mk (Kd.R_drew HO_3.out)
  replace HB := Aside0.mk (below_drew1 HB.out)
  have p7 : 0 ≤ (x11_1 : Int) := dA
  have q7 : x11_1 < (a0.size : Int) := dA
  have hx7 := bt_at a0 x11_1
  replace p7 := eq_true p7
  replace q7 := eq_true q7
  obtain ⟨Ao50, co50, eo50⟩ := Kd.R_slice HO_3.out
  (first | subst eo50 | (injection eo50 with f1_ f2_ f3_; have f4_ := f1_.symm; have f5_ := f3_.symm; clear f1_ f2_ f3_; subst f4_; subst f5_))
  have p11 : 0 ≤ ((ji8) : Int) := dA
  have q11 : ((ji8) : Int) < ((x3_1.length : Int) : Int) := dA
  obtain ⟨go11, co11, eo11, gb11, gl11, cl11, HG11⟩ := Kd.R_form HO_3.out (by omega)
  (first | cases eo11 | (injection eo11 with ea_ en_ ec_; (first | subst ea_ | (injection ea_ with ea_; subst ea_)); subst ec_; clear en_))
  have GB11 := Aside0.mk gb11
  have GG11 := Aside0.mk HG11
  clear gb11 gl11 HG11
  obtain ⟨ce11, hcl11, hM11, hcc11, hfr11⟩ := Kd.R_elem HO_3.out z93 ((ji8) : Int) p11 q11
  obtain rfl := k93_openM hM11
  have hx11_0 : World.cell? _ ⟨go11, ((ji8) : Int).toNat * 3, none⟩ = some (.string ((rd_T93 x3_1 (ji8)).f0)) := hcc11 0 _ rfl
  have hx11_1 : World.cell? _ ⟨go11, ((ji8) : Int).toNat * 3 + 1, none⟩ = some (.bool ((rd_T93 x3_1 (ji8)).f1)) := hcc11 1 _ rfl
  have hx11_2 : World.cell? _ ⟨go11, ((ji8) : Int).toNat * 3 + 2, none⟩ = some (.bool ((rd_T93 x3_1 (ji8)).f2)) := hcc11 2 _ rfl
  have hf11_0 : World.frozen? _ ⟨go11, ((ji8) : Int).toNat * 3, none⟩ = false := hfr11 0
  have hf11_1 : World.frozen? _ ⟨go11, ((ji8) : Int).toNat * 3 + 1, none⟩ = false := hfr11 1
  have hf11_2 : World.frozen? _ ⟨go11, ((ji8) : Int).toNat * 3 + 2, none⟩ = false := hfr11 2
  clear hcl11 hcc11 hfr11 hM11
  replace p11 := eq_true p11
  replace q11 := eq_true q11
  refine start_ (n := 10) (S := fun w' => True) (ds := []) #[false, false, false, false, false, false, false, false, false, false] (by kernel_rfl) rfl rfl trivial (fun hHeld => ?_); refine with_tabW words_parts.tab5 words_parts.bits5 (fun HT_ HW_ => ?_)
  generalize wr.drew = w49 at HO_3 HB GG11 hf11_0 hf11_1 hf11_2 hx11_0 hx11_1 hx11_2 hHeld ⊢
  refine pz 0 (some 14) HT_ ?_
  refine pz 1 (some 15) HT_ ?_
  refine pz 3 (some 17) HT_ ?_
  refine pz 4 (some 18) HT_ ?_
  refine pz 5 (some 19) HT_ ?_
  refine pz 6 (some 20) HT_ ?_
  refine pz 7 (some 21) HT_ ?_
  refine tk 2 (some 16) HT_ HW_ hHeld ?_
  refine pz 8 (some 5) HT_ ?_
  refine pz 9 (some 6) HT_ ?_
  refine done_ (done_of HT_.out (by kernel_rfl)) ?_
  try go_wp2
  replace HO_3 := Aside0.mk (Kd.R_drew HO_3.out)
  replace HB := Aside0.mk (below_drew1 HB.out)
  have p121 : 0 ≤ ((ji8) : Int) := dA
  have q121 : (ji8) < (x3_1.length : Int) := dA
  obtain ⟨ad121, e121, hx121_0, hx121_1, hx121_2⟩ := at_T93 (Kd.R_reads' HO_3.out).2.2 (ji8) p121 q121
  obtain rfl : (⟨go11, 0, none⟩ : Addr) = ad121 := (by injection e121)
  (first | simp only [add_plain] at hx121_0 | simp only [add_at] at hx121_0 | simp only [Addr.add, Nat.zero_add] at hx121_0 | skip)
  (first | simp only [add_plain] at hx121_1 | simp only [add_at] at hx121_1 | simp only [Addr.add, Nat.zero_add] at hx121_1 | skip)
  (first | simp only [add_plain] at hx121_2 | simp only [add_at] at hx121_2 | simp only [Addr.add, Nat.zero_add] at hx121_2 | skip)
  replace p121 := eq_true p121
  replace q121 := eq_true q121
  have p37 : 0 ≤ ((ji34) : Int) := dA
  have q37 : (ji34) < (a0.size : Int) := dA
  have hx37 := bt_at a0 (ji34)
  replace p37 := eq_true p37
  replace q37 := eq_true q37
  refine start_ (n := 16) (S := fun w' => w'.cell? ⟨go11, ((ji8)).toNat * 3, none⟩ = some (.string ((rd_T93 x3_1 (ji8)).f0)) ∧ w'.cell? ⟨go11, ((ji8)).toNat * 3 + 1, none⟩ = some (.bool ((rd_T93 x3_1 (ji8)).f1)) ∧ w'.cell? ⟨go11, ((ji8)).toNat * 3 + 2, none⟩ = some (.bool ((rd_T93 x3_1 (ji8)).f2))) (ds := []) #[false, false, false, false, false, false, false, false, false, false, false, false, false, false, false, false] (by kernel_rfl) rfl rfl ⟨hx121_0, hx121_1, hx121_2⟩ (fun hHeld => ?_); refine with_tabW words_parts.tab8 words_parts.bits8 (fun HT_ HW_ => ?_)
  generalize w49.drew = w51 at HO_3 HB hx121_0 hx121_1 hx121_2 hHeld ⊢
  refine pz 0 (some 36) HT_ ?_
  refine pz 1 (some 37) HT_ ?_
  refine pz 2 (some 38) HT_ ?_
  refine tm 3 (some 39) HT_ HW_ hHeld ?_
  refine pz 4 (some 40) HT_ ?_
  refine pz 5 (some 41) HT_ ?_
  refine pz 6 (some 42) HT_ ?_
  refine pz 8 (some 44) HT_ ?_
  refine pz 9 (some 45) HT_ ?_
  refine pz 10 (some 46) HT_ ?_
  refine tm 11 (some 47) HT_ HW_ hHeld ?_
  refine on 7 (some 43) HT_ (fun K hK => ?_)
  refine goes_ Tryd.func106 (by kernel_rfl) rfl #[.int .u8 (bt a0 x11_1)] (by rfl) rfl rfl mA ?_
  with_reducible refine (chars_Digit.calls (bt a0 x11_1) t127 _ (gS HG) A33.out).mono ?_
  rintro e w' ⟨rfl, ⟨nd, rfl⟩⟩
  refine ⟨_, rfl, ?_⟩
  refine hK.out _ _ ⟨hHeld.1, hHeld.2.1, hHeld.2.2⟩ (fun hHeld => ?_)
  clear hK K
  refine nz (some 43) ?_
  refine on 12 (some 48) HT_ (fun K hK => ?_)
  refine goes_ Tryd.func106 (by kernel_rfl) rfl #[.int .u8 (bt a0 (ji34))] (by rfl) rfl rfl (by (try simp only [List.map_toArray, List.map_cons, List.map_nil]); first | done | (simp only [hji34]; rfl) | rfl | (simp only [List.length_drop, List.length_take]; rfl)) ?_
  with_reducible refine (chars_Digit.calls (bt a0 (ji34)) t128 _ (gS HG) A38.out).mono ?_
  rintro e w' ⟨rfl, ⟨nd, rfl⟩⟩
  refine ⟨_, rfl, ?_⟩
  refine hK.out _ _ ⟨hHeld.1, hHeld.2.1, hHeld.2.2⟩ (fun hHeld => ?_)
  clear hK K
  refine nz (some 48) ?_
  refine pz 13 (some 49) HT_ ?_
  refine pz 14 (some 50) HT_ ?_
  refine pz 15 (some 35) HT_ ?_
  refine done_ (done_of HT_.out (by kernel_rfl)) ?_
  try go_wp2_with (first | (refine gl (some 53) Tryd.func106 #[.int .u8 (bt a0 x11_1)] ?_; (with_reducible refine (chars_Digit.calls (bt a0 x11_1) t129 _ (gS HG) A40.out).mono ?_); rintro e w' ⟨rfl, ⟨nd, rfl⟩⟩; refine ⟨_, rfl, ?_⟩; (try ((try simp only [World.drewN_drewN]); (first | generalize hq_ : World.drewN w51 _ = w51 | (rw [drewN_self w51]; generalize hq_ : World.drewN w51 _ = w51)); have n0_ : Aside0 (Kd.R k93 93 w51 w.heap.size (fun _ => True) (.slice (some ⟨go11, 0, none⟩) x3_1.length co50) x3_1) := ⟨by rw [← hq_]; exact (kR HO_3)⟩; have n1_ : Aside0 (Below w.heap.size w w51) := ⟨by rw [← hq_]; exact bE⟩; clear HO_3 HB hq_; have HO_3 := n0_; have HB := n1_; clear n0_ n1_)); have p41 : 0 ≤ ((ji8) : Int) := dA; have q41 : ((ji8) : Int) < ((x3_1.length : Int) : Int) := dA; obtain ⟨ce41, hcl41, hM41, hcc41, hfr41⟩ := Kd.R_elem HO_3.out z93 ((ji8) : Int) p41 q41; obtain rfl := k93_openM hM41; have hx41_0 : w51.cell? ⟨go11, ((ji8) : Int).toNat * 3, none⟩ = some (.string ((rd_T93 x3_1 (ji8)).f0)) := hcc41 0 _ rfl; have hx41_1 : w51.cell? ⟨go11, ((ji8) : Int).toNat * 3 + 1, none⟩ = some (.bool ((rd_T93 x3_1 (ji8)).f1)) := hcc41 1 _ rfl; have hx41_2 : w51.cell? ⟨go11, ((ji8) : Int).toNat * 3 + 2, none⟩ = some (.bool ((rd_T93 x3_1 (ji8)).f2)) := hcc41 2 _ rfl; have hf41_0 : w51.frozen? ⟨go11, ((ji8) : Int).toNat * 3, none⟩ = false := hfr41 0; have hf41_1 : w51.frozen? ⟨go11, ((ji8) : Int).toNat * 3 + 1, none⟩ = false := hfr41 1; have hf41_2 : w51.frozen? ⟨go11, ((ji8) : Int).toNat * 3 + 2, none⟩ = false := hfr41 2; clear hcl41 hcc41 hfr41 hM41; replace p41 := eq_true p41; replace q41 := eq_true q41; have HX52 := Aside0.mk (show Kd.R k93 93 w51 w.heap.size (fun _ => True) (.slice (some ⟨go11, 0, none⟩) x3_1.length co50) x3_1 from (kR HO_3)); obtain ⟨ce52, hcl52, hM52, hcc52, hfr52⟩ := Kd.R_elem HX52.out z93 ((ji8) : Int) (dA) (by have h_ : ((ji8) : Int) < ((x3_1.length : Int) : Int) := dA; first | exact h_ | (have e_ := (Kd.R_reads' HO_3.out).1; omega) | simpa using h_); obtain rfl := k93_openM hM52; have HP52 := Kd.R_seg HX52.out ((ji8) : Int) (dA) (by have h_ : ((ji8) : Int) < ((x3_1.length : Int) : Int) := dA; first | exact h_ | (have e_ := (Kd.R_reads' HO_3.out).1; omega) | simpa using h_) (seg := [.bool t129]) (j := 2) hcl52 hcc52 (show 3 ≤ 3 from by decide) (x' := (⟨(rd_T93 x3_1 (ji8)).f0, (rd_T93 x3_1 (ji8)).f1, t129⟩ : S93)) (k93_mkM _ _ _ (⟨(rd_T93 x3_1 (ji8)).f0, (rd_T93 x3_1 (ji8)).f1, t129⟩ : S93) ) (fun _ hk => hk); have hx52_2 := hcc52 2 _ rfl; (try simp only [show (k93).sz = 3 from rfl, Nat.mul_one, Nat.add_zero] at hx52_2); have hf52_2 := hfr52 2; (try simp only [show (k93).sz = 3 from rfl, Nat.mul_one, Nat.add_zero] at hf52_2); clear hcl52 hcc52 hfr52 hM52) | ((with_reducible refine gate_store (t := 4) (p := 55) rfl ?_); refine store_event (t := 4) (p := 55) (v := ?vo_w53) (w1 := (w51.setCell ⟨go11, ((ji8) : Int).toNat * 3 + 2, none⟩ (.bool t129))) ?hg ?ho ?hn ?hr ?_; (case ho => rfl); (case hg => rfl); (case hn => rfl); (case hr => first | (go_simp; done) | (go_simp; rfl)); intro w53 hw; have hg : w51.grownBy w53 (some go11) := (by rw [hw]; exact HP52.2); have hp_ : Kd.R k93 93 w53 w.heap.size (fun _ => True) (.slice (some ⟨go11, 0, none⟩) x3_1.length co50) y130 := (by rw [hw, Ny130.out]; exact HP52.1); clear HP52; replace HO_3 := Aside0.mk (hp_); replace HB := Aside0.mk ((by rw [hw]; exact below_set (HB.out) GB11.out : Below w.heap.size w w53)); clear hg hw hp_) | ((with_reducible refine gate_builtin (b := .append) (xs := #[.tmp 56, .tmp 58]) rfl ?_); at_builtin; refine Kd.R_append k93 (w0 := w) w.heap.size rfl (.tmp 56) (.tmp 58) 87 93 (.agg #[(.string ⟨#[]⟩), (.bool false), (.bool false)]) 24 rfl Tryd.underlying87 info93 rfl (by decide) (by omega) (.slice (some ⟨go11, 0, none⟩) x3_1.length co50) y130 (⟨(⟨#[]⟩ : ByteArray), true, false⟩ : S93) [.string (⟨#[]⟩ : ByteArray), .bool true, .bool false] (fun _ => True) (fun _ => False) rfl rfl ?aP (fun _ hk => hk.elim) ?aF ?aO ?aB ?aS ?aL ?_; (case aP => exact k93_mkM _ _ _ (⟨(⟨#[]⟩ : ByteArray), true, false⟩ : S93)); (case aB => exact bE); (case aF => exact (fun _ _ => trivial)); (case aO => exact (kR HO_3)); (case aS => exact (below_size bE)); (case aL => have := LMc42.out; omega); intro v132 w54 ho hb hg hat; rw [← Ny131.out] at ho; replace HB := Aside0.mk (hb); have HO133 := Aside0.mk (ho); clear HO_3; clear ho hb hg hat; obtain ⟨Ao55, co55, eo55⟩ := Kd.R_slice HO133.out; subst eo55; have p46 : 0 ≤ ((ji43) : Int) := dA; have q46 : ((ji43) : Int) < ((y131.length : Int) : Int) := dA; obtain ⟨go46, co46, eo46, gb46, gl46, cl46, HG46⟩ := Kd.R_form HO133.out (by omega); (first | cases eo46 | (injection eo46 with ea_ en_ ec_; (first | subst ea_ | (injection ea_ with ea_; subst ea_)); subst ec_; clear en_)); have GB46 := Aside0.mk gb46; have GG46 := Aside0.mk HG46; clear gb46 gl46 HG46; obtain ⟨ce46, hcl46, hM46, hcc46, hfr46⟩ := Kd.R_elem HO133.out z93 ((ji43) : Int) p46 q46; obtain rfl := k93_openM hM46; have hx46_0 : w54.cell? ⟨go46, ((ji43) : Int).toNat * 3, none⟩ = some (.string ((rd_T93 y131 (ji43)).f0)) := hcc46 0 _ rfl; have hx46_1 : w54.cell? ⟨go46, ((ji43) : Int).toNat * 3 + 1, none⟩ = some (.bool ((rd_T93 y131 (ji43)).f1)) := hcc46 1 _ rfl; have hx46_2 : w54.cell? ⟨go46, ((ji43) : Int).toNat * 3 + 2, none⟩ = some (.bool ((rd_T93 y131 (ji43)).f2)) := hcc46 2 _ rfl; have hf46_0 : w54.frozen? ⟨go46, ((ji43) : Int).toNat * 3, none⟩ = false := hfr46 0; have hf46_1 : w54.frozen? ⟨go46, ((ji43) : Int).toNat * 3 + 1, none⟩ = false := hfr46 1; have hf46_2 : w54.frozen? ⟨go46, ((ji43) : Int).toNat * 3 + 2, none⟩ = false := hfr46 2; clear hcl46 hcc46 hfr46 hM46; replace p46 := eq_true p46; replace q46 := eq_true q46))
  replace HO133 := Aside0.mk (Kd.R_drew HO133.out)
  replace HB := Aside0.mk (below_drew1 HB.out)
  have p134 : 0 ≤ ((ji43) : Int) := dA
  have q134 : (ji43) < (y131.length : Int) := dA
  obtain ⟨ad134, e134, hx134_0, hx134_1, hx134_2⟩ := at_T93 (Kd.R_reads' HO133.out).2.2 (ji43) p134 q134
  obtain rfl : (⟨go46, 0, none⟩ : Addr) = ad134 := (by injection e134)
  (first | simp only [add_plain] at hx134_0 | simp only [add_at] at hx134_0 | simp only [Addr.add, Nat.zero_add] at hx134_0 | skip)
  (first | simp only [add_plain] at hx134_1 | simp only [add_at] at hx134_1 | simp only [Addr.add, Nat.zero_add] at hx134_1 | skip)
  (first | simp only [add_plain] at hx134_2 | simp only [add_at] at hx134_2 | simp only [Addr.add, Nat.zero_add] at hx134_2 | skip)
  replace p134 := eq_true p134
  replace q134 := eq_true q134
  refine start_ (n := 11) (S := fun w' => w'.cell? ⟨go46, ((ji43)).toNat * 3, none⟩ = some (.string ((rd_T93 y131 (ji43)).f0)) ∧ w'.cell? ⟨go46, ((ji43)).toNat * 3 + 1, none⟩ = some (.bool ((rd_T93 y131 (ji43)).f1)) ∧ w'.cell? ⟨go46, ((ji43)).toNat * 3 + 2, none⟩ = some (.bool ((rd_T93 y131 (ji43)).f2))) (ds := [10]) #[false, false, false, false, false, false, false, false, false, false, false] (by kernel_rfl) rfl rfl ⟨hx134_0, hx134_1, hx134_2⟩ (fun hHeld => ?_); refine with_tabW words_parts.tab12 words_parts.bits12 (fun HT_ HW_ => ?_)
  generalize w54.drew = w56 at HO133 HB hx134_0 hx134_1 hx134_2 hHeld ⊢
  refine pz 0 (some 65) HT_ ?_
  refine pz 1 (some 66) HT_ ?_
  refine pz 2 (some 67) HT_ ?_
  refine pz 4 (some 69) HT_ ?_
  refine tm 3 (some 68) HT_ HW_ hHeld ?_
  refine on 5 (some 70) HT_ (fun K hK => ?_)
  refine Kd.R_lit_step (Kd.int .u8) _ 5 ?hg (N := 70) ?hd (xs := ([bt a0 x11_1] : List Int)) (inner := [.int .u8 (bt a0 x11_1)]) (ok := fun _ => True) (okp := fun _ => True) ?hr ?hp (fun _ hk => hk) trivial (Below.refl _ _) (Nat.le_refl _) (by simp) ?_; (case hd => rfl); (case hg => rfl); (case hr => first | (go_simp; done) | (go_simp; rfl)); (case hp => exact (Reps.one (show Kd.M (Kd.int .u8) _ _ _ (bt a0 x11_1) [.int .u8 (bt a0 x11_1)] from rfl) (Reps.none _ _)))
  intro v136 w57 ho58 hb hg_ hnew_
  have HS0_ := (hb.cell (World.block_lt_of_cell? _ _ (hHeld.1))).trans (hHeld.1)
  have HS1_ := (hb.cell (World.block_lt_of_cell? _ _ (hHeld.2.1))).trans (hHeld.2.1)
  have HS2_ := (hb.cell (World.block_lt_of_cell? _ _ (hHeld.2.2))).trans (hHeld.2.2)
  clear hg_ hnew_
  (first | rw [← Ny135.out] at ho58 | (simp only [Int.reduceToNat] at ho58; rw [← Ny135.out] at ho58))
  replace HO133 := rB HO133 hb
  have HO137 := Aside0.mk (Kd.R_lower ho58 (below_size bE))
  replace HB := sB hb
  clear hb ho58
  have p48 : 0 ≤ ((ji43) : Int) := dA
  have q48 : ((ji43) : Int) < ((y131.length : Int) : Int) := dA
  obtain ⟨ce48, hcl48, hM48, hcc48, hfr48⟩ := Kd.R_elem HO133.out z93 ((ji43) : Int) p48 q48
  obtain rfl := k93_openM hM48
  have hx48_0 : World.cell? _ ⟨go46, ((ji43) : Int).toNat * 3, none⟩ = some (.string ((rd_T93 y131 (ji43)).f0)) := hcc48 0 _ rfl
  have hx48_1 : World.cell? _ ⟨go46, ((ji43) : Int).toNat * 3 + 1, none⟩ = some (.bool ((rd_T93 y131 (ji43)).f1)) := hcc48 1 _ rfl
  have hx48_2 : World.cell? _ ⟨go46, ((ji43) : Int).toNat * 3 + 2, none⟩ = some (.bool ((rd_T93 y131 (ji43)).f2)) := hcc48 2 _ rfl
  have hf48_0 : World.frozen? _ ⟨go46, ((ji43) : Int).toNat * 3, none⟩ = false := hfr48 0
  have hf48_1 : World.frozen? _ ⟨go46, ((ji43) : Int).toNat * 3 + 1, none⟩ = false := hfr48 1
  have hf48_2 : World.frozen? _ ⟨go46, ((ji43) : Int).toNat * 3 + 2, none⟩ = false := hfr48 2
  clear hcl48 hcc48 hfr48 hM48
  replace p48 := eq_true p48
  replace q48 := eq_true q48
  obtain ⟨ce60, hcl60, hM60, hcc60, hfr60⟩ := Kd.R_elem HO133.out z93 ((ji43) : Int) (dA) (by have h_ : ((ji43) : Int) < ((y131.length : Int) : Int) := dA; first | exact h_ | (have e_ := (Kd.R_reads' HO133.out).1; omega) | simpa using h_)
  obtain rfl := k93_openM hM60
  have HP60 := (Kd.R_seg HO133.out ((ji43) : Int) (dA) (by have h_ : ((ji43) : Int) < ((y131.length : Int) : Int) := dA; first | exact h_ | (have e_ := (Kd.R_reads' HO133.out).1; omega) | simpa using h_) (seg := [.string (((rd_T93 y131 (ji43)).f0) ++ (strOfNums y135))]) (j := 0) hcl60 hcc60 (show 1 ≤ 3 from by decide) (x' := (⟨((rd_T93 y131 (ji43)).f0) ++ (strOfNums y135), (rd_T93 y131 (ji43)).f1, (rd_T93 y131 (ji43)).f2⟩ : S93)) (k93_mkM _ _ _ (⟨((rd_T93 y131 (ji43)).f0) ++ (strOfNums y135), (rd_T93 y131 (ji43)).f1, (rd_T93 y131 (ji43)).f2⟩ : S93) ) (fun _ hk => hk)).1
  rw [← Ny138.out] at HP60
  have HQ60 := Aside0.mk HP60
  clear hcl60 hcc60 hfr60 hM60 HP60
  refine hK.out _ _ ⟨HS0_, HS1_, HS2_⟩ (fun hHeld => ?_)
  clear hK K
  refine nz (some 70) ?_
  refine on 6 (some 71) HT_ (fun K hK => ?_)
  have hcv59 := own_string (P := Tryd.prog) Tryd.underlying30 Tryd.underlying5 Tryd.underlying9 (Kd.own_of_R HO137.out)
  refine value_ (w1 := ?_) (v := ?_) (by rfl) rfl ?_ ?_
  rotate_left 2
  ·go_simp
   constructor
   ·rfl
   ·rfl
  clear hcv59
  refine hK.out _ _ ⟨hHeld.1, hHeld.2.1, hHeld.2.2⟩ (fun hHeld => ?_)
  clear hK K
  refine nz (some 71) ?_
  refine pz 7 (some 72) HT_ ?_
  refine pz 8 (some 73) HT_ ?_
  refine pz 9 (some 74) HT_ ?_
  refine last_ (i := 10) (N := none) #[true, true, true, true, true, true, true, true, true, true, true] rfl rfl (one_of HT_.out (by kernel_rfl)) (by decide) (fun K hK => ?_)
  refine skip_ (w1 := ?_) (by rfl) rfl ?_ ?_
  rotate_left
  ·go_simp
   rfl
  refine hK.out _ _ ?_
  clear hK K
  refine done_ (done_of HT_.out (by kernel_rfl)) ?_
  try go_wp2
  go_roundg k1
  case measure => have := HK1.out; omega
  case rel => exact ⟨(y138), (wrap64 (x11_1 + 1)), cA, H', ⟨by have := HK1.out; omega⟩, ⟨by (with_reducible repeat (first | apply Kd.R_alloc | apply Kd.R_drewN | apply Kd.R_drew)); exact HQ60.out⟩, ⟨by repeat (first | (with_reducible first | exact HB.out | apply below_alloc | apply pw_below_drewN | apply below_drew1 | refine below_set ?_ GB46.out) | exact HB.out)⟩⟩
end Go.Proofs.YtgdjfcmmpjcaaaaDoor.Q
namespace Go.Proofs.YtgdjfcmmpjcaaaaDoor.Q
open Go.RowKit Go.Proofs.YtgdjfcmmpjcaaaaDoorW.PrintWords Go.Proofs.YtgdjfcmmpjcaaaaDoorW.PrintLast Go.Proofs.YtgdjfcmmpjcaaaaDoorW.Own Go.Proofs.YtgdjfcmmpjcaaaaDoorW.PrintMore
attribute [local go_sem] max2_int min2_int max_two min_two max_three min_three max_four min_four   -- for this text's walks alone
set_option linter.unusedVariables false
set_option linter.unusedSimpArgs false
def chars_Lower.low (n : Int) : Int := if 65 ≤ n ∧ n ≤ 90 then n + 32 else n
def chars_Lower.f (a0 : ByteArray) : Option ByteArray := if a0.size ≤ 281474976710656 then some (strOfNums ((bytesOf a0).map chars_Lower.low)) else none
def chars_Lower.val (a0 : ByteArray) (i j : Nat) : Int := if j < i then chars_Lower.low (bt a0 (j : Int)) else bt a0 (j : Int)
structure chars_Lower.Row (w : World) (a0 : ByteArray) (i : Nat) (w' : World) : Prop where
  below : Below w.heap.size w w'
  cell : ∀ j, j < a0.size → w'.cell? ⟨w.heap.size, j, none⟩ = some (.int .u8 (chars_Lower.val a0 i j))
  soft : ∀ j, j < a0.size → w'.frozen? ⟨w.heap.size, j, none⟩ = false
set_option maxHeartbeats 4000000 in
set_option maxRecDepth 100000 in
theorem chars_Lower.calls (a0 : ByteArray) (r : ByteArray) (w : World) (hG : Glob w) (h : chars_Lower.f a0 = some r) :
    Calls Tryd.prog 72 #[.string a0] w fun e w' => e = .returned (.string r) ∧ Below w.heap.size w w' := by
  unfold chars_Lower.f at h
  split at h
  · rename_i hs
    obtain rfl := Option.some.inj h
    clear h
    have kb := fun W => print_bytes (P := Tryd.prog) 9 30 5 Tryd.underlying9 Tryd.underlying30 Tryd.underlying5 a0 W
    go_enter Tryd.func72, Tryd.ntmps72
    go_wp2
    have hR : chars_Lower.Row w a0 0 (Lib.bytesWorld w 5 a0) := by
      refine ⟨bytes_below (Below.refl _ _) (Nat.le_refl _) _ _, ?_, ?_⟩
      · intro j hj
        rw [Lib.bytesWorld_cell w 5 a0 j hj]
        unfold chars_Lower.val bt
        rw [if_neg (Nat.not_lt_zero _)]
        have h' : j < a0.data.toList.length := by rw [data_length]; exact hj
        simp [List.getD_eq_getElem?_getD, hj]
        rfl
      · intro j hj
        have hz : a0.size ≤ (Lib.bytesCells w 5 a0).size := by simp [Lib.bytesCells]
        simp [World.frozen?, Lib.bytesWorld_at_new]
        omega
    generalize hWx : Lib.bytesWorld w 5 a0 = W2 at hR ⊢
    go_loopg [10] a0.size (fun g v10 w' => ∃ i : Nat, i ≤ a0.size ∧ v10 = .int .i64 (i : Int) ∧ g + i = a0.size ∧ chars_Lower.Row w a0 i w')
    case atStart => exact ⟨0, Nat.zero_le _, rfl, rfl, hR⟩
    case round =>
      obtain ⟨i, hi, rfl, hgi, hr⟩ := hrel
      by_cases c : i < a0.size
      · have d : decide ((i : Int) < (a0.size : Int)) = true := decide_eq_true (by omega)
        have hx := hr.cell i c
        have hf := hr.soft i c
        have hv : chars_Lower.val a0 i i = bt a0 (i : Int) := by unfold chars_Lower.val; rw [if_neg (Nat.lt_irrefl _)]
        rw [hv] at hx
        have hb := bt_range a0 (i : Int)
        have hw1 : wrap64 ((i : Int) + 1) = ((i + 1 : Nat) : Int) := by unfold wrap64; omega
        by_cases c1 : 65 ≤ bt a0 (i : Int) ∧ bt a0 (i : Int) ≤ 90
        · have d1 : decide (65 ≤ bt a0 (i : Int)) = true := decide_eq_true c1.1
          have d2 : decide (bt a0 (i : Int) ≤ 90) = true := decide_eq_true c1.2
          go_wp2
          go_roundg (a0.size - (i + 1))
          case measure => omega
          case rel =>
            refine ⟨i + 1, by omega, by simp, by omega, ⟨hr.below.setCell (Nat.le_refl _) _, fun j hj => ?_, fun j hj => (World.frozen?_setCell _ _ _ _).trans (hr.soft j hj)⟩⟩
            by_cases e : j = i
            · subst e
              rw [World.cell?_setCell_same _ _ _ (hr.cell j hj)]
              unfold chars_Lower.val chars_Lower.low
              rw [if_pos (Nat.lt_succ_self _), if_pos c1]
              have : bt a0 (j : Int) - 65 + 97 = bt a0 (j : Int) + 32 := by omega
              rw [this]
            · rw [World.cell?_setCell_other _ _ _ _ (show (⟨w.heap.size, i, none⟩ : Addr) ≠ ⟨w.heap.size, j, none⟩ from by intro h; injection h with _ h2 _; exact e h2.symm), hr.cell j hj]
              unfold chars_Lower.val
              by_cases l : j < i
              · rw [if_pos l, if_pos (by omega)]
              · rw [if_neg l, if_neg (by omega)]
        · have d12 : decide (65 ≤ bt a0 (i : Int)) = true → decide (bt a0 (i : Int) ≤ 90) = false := fun h => decide_eq_false (fun h2 => c1 ⟨of_decide_eq_true h, h2⟩)
          have same : ∀ W, chars_Lower.Row w a0 i W → chars_Lower.Row w a0 (i + 1) W := fun W hr => by
            refine ⟨hr.below, fun j hj => ?_, hr.soft⟩
            rw [hr.cell j hj]
            by_cases e : j = i
            · subst e
              rw [hv]
              unfold chars_Lower.val chars_Lower.low
              rw [if_pos (Nat.lt_succ_self _), if_neg c1]
            · unfold chars_Lower.val
              by_cases l : j < i
              · rw [if_pos l, if_pos (by omega)]
              · rw [if_neg l, if_neg (by omega)]
          by_cases c2 : 65 ≤ bt a0 (i : Int)
          · have d1 : decide (65 ≤ bt a0 (i : Int)) = true := decide_eq_true c2
            have d2 := d12 d1
            go_wp2
            go_roundg (a0.size - (i + 1))
            case measure => omega
            case rel => exact ⟨i + 1, by omega, by simp, by omega, same _ hr⟩
          · have d1 : decide (65 ≤ bt a0 (i : Int)) = false := decide_eq_false c2
            go_wp2
            go_roundg (a0.size - (i + 1))
            case measure => omega
            case rel => exact ⟨i + 1, by omega, by simp, by omega, same _ hr⟩
      · have d : decide ((i : Int) < (a0.size : Int)) = false := decide_eq_false (by omega)
        have hi' : i = a0.size := by omega
        have hc : ∀ W, chars_Lower.Row w a0 i W → Kd.C (Kd.int .u8) W (some ⟨w.heap.size, 0, none⟩) a0.size ((bytesOf a0).map chars_Lower.low) := fun W hr => by
          refine Kd.C_of_reads (enc := Value.int .u8) (d := (0 : Int)) (h1 := fun _ => rfl) ⟨by rw [List.length_map, bytesOf_length], by omega, fun _ => ⟨_, rfl, fun j hj => ?_⟩⟩
          rw [add_plain, hr.cell j hj]
          unfold chars_Lower.val
          rw [if_pos (by omega)]
          have h' : j < (bytesOf a0).length := by rw [bytesOf_length]; exact hj
          have e : (bytesOf a0)[j]'h' = bt a0 (j : Int) := by
            rw [← rd_bytesOf]
            unfold rd
            simp [List.getD_eq_getElem?_getD, List.getElem?_eq_getElem h']
          simp [List.getD_eq_getElem?_getD, List.getElem?_eq_getElem h', e]
        have hcv := Kd.C_string (P := Tryd.prog) (A := some ⟨w.heap.size, 0, none⟩) (c := grownCap w a0.size 0 5) Tryd.underlying30 Tryd.underlying5 Tryd.underlying9 (hc _ hr)
        go_wp2
        go_ret
        exact ⟨rfl, hr.below⟩
  · exact absurd h (by simp)
end Go.Proofs.YtgdjfcmmpjcaaaaDoor.Q
namespace Go.Proofs.YtgdjfcmmpjcaaaaDoor.Q
open Go.RowKit Go.Proofs.YtgdjfcmmpjcaaaaDoorW.PrintWords Go.Proofs.YtgdjfcmmpjcaaaaDoorW.PrintLast Go.Proofs.YtgdjfcmmpjcaaaaDoorW.Own Go.Proofs.YtgdjfcmmpjcaaaaDoorW.PrintMore
attribute [local go_sem] max2_int min2_int max_two min_two max_three min_three max_four min_four   -- for this text's walks alone
set_option linter.unusedVariables false
set_option linter.unusedSimpArgs false
set_option maxHeartbeats 20000000
set_option maxRecDepth 100000
def api_Word_73.l0 : Nat → List (S38) → Int → Int → Option ((List (S38)))
 | 0, _, _, _ => none
 | k + 1, x0, x2, x3 => if x2 < x3 then (if 0 ≤ x3 then (if x3 < (x0.length : Int) then (if 0 ≤ x2 then (if x2 < (x0.length : Int) then (api_Word_73.l0 k ((x0.set (x2 : Int).toNat (⟨(rd_T38 x0 x3).f0, (rd_T38 x0 x3).f1⟩ : S38)).set (x3 : Int).toNat (⟨(rd_T38 x0 x2).f0, (rd_T38 x0 x2).f1⟩ : S38)) (wrap64 (x2 + 1)) (wrap64 (x3 - 1))) else (none)) else (none)) else (none)) else (none)) else (some x0)
def api_Word_73.f (k : Nat) (l0 : List (S38)) : Option ((List (S38))) := api_Word_73.l0 k l0 0 (wrap64 ((l0.length : Int) - 1))
def api_Word_73.T3 : Bool × List (List Nat × List Nat) := (true, [([], []), ([], []), ([], []), ([], []), ([], []), ([], []), ([4, 5], [4, 5]), ([6], [6]), ([], []), ([], []), ([8, 9], [8, 9]), ([10], [10]), ([0, 1, 0, 1, 4, 5, 6, 7, 11], [0, 1]), ([12, 7, 0, 1, 4, 5, 6, 7, 11], [7, 12]), ([2, 3, 0, 1, 2, 3, 4, 5, 6, 7, 8, 9, 10, 11, 12, 13], [2, 3]), ([14, 11, 13, 0, 1, 2, 3, 4, 5, 6, 7, 8, 9, 10, 11, 12, 13], [11, 14])])
def api_Word_73.B3 : List Nat := [0, 0, 0, 0, 0, 0, 48, 112, 0, 0, 768, 1792, 4083, 8179, 16383, 32767]
theorem api_Word_73.tab3 : rtab .any (opsOf Tryd.f73 3) = api_Word_73.T3 := by kernel_rfl
theorem api_Word_73.bits3 : waitsOk api_Word_73.T3.2 api_Word_73.B3 = true := by kernel_rfl
theorem api_Word_73.calls (k : Nat) (P0_ : Nat → Prop) (u9000_ : Value) (l0 : List (S38)) (r : List (S38)) (w0 w : World) (hB : Below w0.heap.size w0 w) (ho0 : Kd.R k38 38 w w0.heap.size P0_ u9000_ l0) (hG : Glob w0) (h : api_Word_73.f k l0 = some r) :
 Calls Tryd.prog 73 #[u9000_] w fun e w' => e = .returned (.tuple #[]) ∧ Kd.R k38 38 w' w0.heap.size (fun k_ => (P0_ k_ ∨ w.heap.size ≤ k_)) u9000_ r ∧ Below w0.heap.size w0 w' ∧ Kept w w' (fun k_ => P0_ k_) := by
 have hu38 := Tryd.underlying38
 have HG := Aside0.mk hG
 clear hG
 have HO0 := Aside0.mk (show Kd.R k38 38 w w0.heap.size (fun k_ => (P0_ k_ ∨ w.heap.size ≤ k_)) u9000_ l0 from Kd.R_mono ho0 (fun k_ hk => (.inl hk)))
 have HK := Aside0.mk (Kept.refl w (fun k_ => P0_ k_))
 have HW0 := Aside0.mk hB.size
 have HB := Aside0.mk hB
 clear hB
 have H : (api_Word_73.l0 k l0 0 (wrap64 ((l0.length : Int) - 1))) = some r := h
 clear h
 have H' := Aside0.mk H
 clear H
 obtain ⟨Ao2, co2, eo2⟩ := Kd.R_slice HO0.out
 subst eo2
 go_enter Tryd.func73, Tryd.ntmps73
 go_wp2
 go_loopg [2, 3] k (fun kq v2 v3 w' => ∃ (x0_1 : List (S38)) (x2_1 : Int) (x3_1 : Int), v2 = .int .i64 x2_1 ∧ v3 = .int .i64 x3_1 ∧ Aside0 (api_Word_73.l0 kq x0_1 x2_1 x3_1 = some r) ∧ Aside0 (kq ≤ k) ∧ Aside0 (Kd.R k38 38 w' w0.heap.size (fun k_ => (P0_ k_ ∨ w.heap.size ≤ k_)) (.slice Ao2 l0.length co2) x0_1) ∧ Aside0 (Kept w w' (fun k_ => P0_ k_)) ∧ Aside0 (Below w0.heap.size w0 w'))
 case atStart => exact ⟨(l0), (0), (wrap64 ((l0.length : Int) - 1)), cA, cA, H', ⟨Nat.le_refl _⟩, ⟨kR HO0⟩, ⟨by repeat (first | (with_reducible first | exact HK.out | apply Kept.alloc | apply Kept.drewN | apply Kept.drew) | exact HK.out)⟩, ⟨bE⟩⟩
 clear H'
 try clear p2
 obtain ⟨x0_1, x2_1, x3_1, rfl, rfl, HA, HK1, HO_0, HK, HB⟩ := hrel
 have hl0_1 := (Kd.R_reads' HO_0.out).1
 rw [hl0_1] at HO_0
 (try simp only [hl0_1])
 cases gk with
 | zero => exact absurd HA.out (by simp [api_Word_73.l0])
 | succ k1 =>
  have H := HA.out
  clear HA
  simp only [api_Word_73.l0] at H
  by_cases c3 : x2_1 < x3_1
  rotate_left
  ·rw [if_neg c3] at H
   have c3b0 := dF c3
   clear c3
   obtain rfl := Option.some.inj H
   go_wp2
   first | go_end0 | ((try simp only [Exit.inBlock, Exit.then]); refine bodyPost_ret (results_none rfl _ _ _) rfl ?_)
   exact ⟨eA, (by first | exact (kR HO_0) | (simp only [hl0_1]; exact (kR HO_0))), bE, by repeat (first | (with_reducible first | exact HK.out | apply Kept.alloc | apply Kept.drewN | apply Kept.drew) | exact HK.out)⟩
  rw [if_pos c3] at H
  have c3b0 := dT c3
  clear c3
  obtain ⟨c4, H⟩ := gp H
  have c4b0 := dT c4
  clear c4
  obtain ⟨c5, H⟩ := gp H
  have c5b0 := dT c5
  clear c5
  obtain ⟨c6, H⟩ := gp H
  have c6b0 := dT c6
  clear c6
  obtain ⟨c7, H⟩ := gp H
  have c7b0 := dT c7
  clear c7
  obtain ⟨y146, hy146⟩ : ∃ y_ : List (S38), y_ = (x0_1.set (x2_1 : Int).toNat (⟨(rd_T38 x0_1 x3_1).f0, (rd_T38 x0_1 x3_1).f1⟩ : S38)) := ⟨_, rfl⟩
  replace H : (api_Word_73.l0 k1 (y146.set (x3_1 : Int).toNat (⟨(rd_T38 x0_1 x2_1).f0, (rd_T38 x0_1 x2_1).f1⟩ : S38)) (wrap64 (x2_1 + 1)) (wrap64 (x3_1 - 1))) = some r := by first | (rw [hy146]; with_reducible exact H) | (have H2_ := (Option.bind_some _ _).symm.trans H; rw [hy146]; with_reducible exact H2_) | (have H2_ := (Option.bind_some _ _).symm.trans H; with_reducible exact H2_) | with_reducible exact H | (rw [hy146]; exact H) | exact H
  have Ny146 := Aside0.mk hy146
  clear hy146
  obtain ⟨y147, hy147⟩ : ∃ y_ : List (S38), y_ = (y146.set (x3_1 : Int).toNat (⟨(rd_T38 x0_1 x2_1).f0, (rd_T38 x0_1 x2_1).f1⟩ : S38)) := ⟨_, rfl⟩
  replace H : (api_Word_73.l0 k1 y147 (wrap64 (x2_1 + 1)) (wrap64 (x3_1 - 1))) = some r := by first | (rw [hy147]; with_reducible exact H) | (have H2_ := (Option.bind_some _ _).symm.trans H; rw [hy147]; with_reducible exact H2_) | (have H2_ := (Option.bind_some _ _).symm.trans H; with_reducible exact H2_) | with_reducible exact H | (rw [hy147]; exact H) | exact H
  have Ny147 := Aside0.mk hy147
  clear hy147
  have H' := Aside0.mk H
  clear H
  try go_wp2
  replace HO_0 := Aside0.mk (Kd.R_drew HO_0.out)
  replace HK := Aside0.mk (Kept.drew HK.out)
  replace HB := Aside0.mk (below_drew1 HB.out)
  have p144 : 0 ≤ (x3_1 : Int) := dA
  have q144 : x3_1 < (x0_1.length : Int) := dA
  obtain ⟨ad144, e144, hx144_0, hx144_1⟩ := at_T38 (Kd.R_reads' HO_0.out).2.2 x3_1 p144 q144
  cases e144
  replace p144 := eq_true p144
  replace q144 := eq_true q144
  have p145 : 0 ≤ (x2_1 : Int) := dA
  have q145 : x2_1 < (x0_1.length : Int) := dA
  obtain ⟨ad145, e145, hx145_0, hx145_1⟩ := at_T38 (Kd.R_reads' HO_0.out).2.2 x2_1 p145 q145
  obtain rfl : ad144 = ad145 := (by injection e145)
  replace p145 := eq_true p145
  replace q145 := eq_true q145
  have p8 : 0 ≤ (x2_1 : Int) := dA
  have q8 : (x2_1 : Int) < ((x0_1.length : Int) : Int) := dA
  obtain ⟨go8, co8, eo8, gb8, gl8, cl8, HG8⟩ := Kd.R_form HO_0.out (by omega)
  (first | cases eo8 | (injection eo8 with ea_ en_ ec_; (first | subst ea_ | (injection ea_ with ea_; subst ea_)); subst ec_; clear en_))
  have GB8 := Aside0.mk gb8
  have hlt_sw_ : x2_1 < x3_1 := of_decide_eq_true c3b0
  have h0_sw_ : 0 ≤ x2_1 := of_decide_eq_true c6b0
  have far_sw_0 : ∀ (W : World) (v : Value), (W.setCell ⟨go8, (x2_1 : Int).toNat * 2, none⟩ v).cell? ⟨go8, (x3_1 : Int).toNat * 2, none⟩ = W.cell? ⟨go8, (x3_1 : Int).toNat * 2, none⟩ := fun W v => World.cell?_setCell_other _ _ _ _ (show (⟨go8, (x2_1 : Int).toNat * 2, none⟩ : Addr) ≠ ⟨go8, (x3_1 : Int).toNat * 2, none⟩ from by intro h; injection h with _ h2 _; omega)
  have far_sw_1 : ∀ (W : World) (v : Value), (W.setCell ⟨go8, (x2_1 : Int).toNat * 2, none⟩ v).cell? ⟨go8, (x3_1 : Int).toNat * 2 + 1, none⟩ = W.cell? ⟨go8, (x3_1 : Int).toNat * 2 + 1, none⟩ := fun W v => World.cell?_setCell_other _ _ _ _ (show (⟨go8, (x2_1 : Int).toNat * 2, none⟩ : Addr) ≠ ⟨go8, (x3_1 : Int).toNat * 2 + 1, none⟩ from by intro h; injection h with _ h2 _; omega)
  have far_sw_2 : ∀ (W : World) (v : Value), (W.setCell ⟨go8, (x2_1 : Int).toNat * 2 + 1, none⟩ v).cell? ⟨go8, (x3_1 : Int).toNat * 2, none⟩ = W.cell? ⟨go8, (x3_1 : Int).toNat * 2, none⟩ := fun W v => World.cell?_setCell_other _ _ _ _ (show (⟨go8, (x2_1 : Int).toNat * 2 + 1, none⟩ : Addr) ≠ ⟨go8, (x3_1 : Int).toNat * 2, none⟩ from by intro h; injection h with _ h2 _; omega)
  have far_sw_3 : ∀ (W : World) (v : Value), (W.setCell ⟨go8, (x2_1 : Int).toNat * 2 + 1, none⟩ v).cell? ⟨go8, (x3_1 : Int).toNat * 2 + 1, none⟩ = W.cell? ⟨go8, (x3_1 : Int).toNat * 2 + 1, none⟩ := fun W v => World.cell?_setCell_other _ _ _ _ (show (⟨go8, (x2_1 : Int).toNat * 2 + 1, none⟩ : Addr) ≠ ⟨go8, (x3_1 : Int).toNat * 2 + 1, none⟩ from by intro h; injection h with _ h2 _; omega)
  have far_sw_4 : ∀ (W : World) (v : Value), (W.setCell ⟨go8, (x3_1 : Int).toNat * 2, none⟩ v).cell? ⟨go8, (x2_1 : Int).toNat * 2, none⟩ = W.cell? ⟨go8, (x2_1 : Int).toNat * 2, none⟩ := fun W v => World.cell?_setCell_other _ _ _ _ (show (⟨go8, (x3_1 : Int).toNat * 2, none⟩ : Addr) ≠ ⟨go8, (x2_1 : Int).toNat * 2, none⟩ from by intro h; injection h with _ h2 _; omega)
  have far_sw_5 : ∀ (W : World) (v : Value), (W.setCell ⟨go8, (x3_1 : Int).toNat * 2, none⟩ v).cell? ⟨go8, (x2_1 : Int).toNat * 2 + 1, none⟩ = W.cell? ⟨go8, (x2_1 : Int).toNat * 2 + 1, none⟩ := fun W v => World.cell?_setCell_other _ _ _ _ (show (⟨go8, (x3_1 : Int).toNat * 2, none⟩ : Addr) ≠ ⟨go8, (x2_1 : Int).toNat * 2 + 1, none⟩ from by intro h; injection h with _ h2 _; omega)
  have far_sw_6 : ∀ (W : World) (v : Value), (W.setCell ⟨go8, (x3_1 : Int).toNat * 2 + 1, none⟩ v).cell? ⟨go8, (x2_1 : Int).toNat * 2, none⟩ = W.cell? ⟨go8, (x2_1 : Int).toNat * 2, none⟩ := fun W v => World.cell?_setCell_other _ _ _ _ (show (⟨go8, (x3_1 : Int).toNat * 2 + 1, none⟩ : Addr) ≠ ⟨go8, (x2_1 : Int).toNat * 2, none⟩ from by intro h; injection h with _ h2 _; omega)
  have far_sw_7 : ∀ (W : World) (v : Value), (W.setCell ⟨go8, (x3_1 : Int).toNat * 2 + 1, none⟩ v).cell? ⟨go8, (x2_1 : Int).toNat * 2 + 1, none⟩ = W.cell? ⟨go8, (x2_1 : Int).toNat * 2 + 1, none⟩ := fun W v => World.cell?_setCell_other _ _ _ _ (show (⟨go8, (x3_1 : Int).toNat * 2 + 1, none⟩ : Addr) ≠ ⟨go8, (x2_1 : Int).toNat * 2 + 1, none⟩ from by intro h; injection h with _ h2 _; omega)
  have far_sw_8 : ∀ (W : World) (v : Value), (W.setCell ⟨go8, (x2_1 : Int).toNat * 2, none⟩ v).cell? ⟨go8, (x2_1 : Int).toNat * 2 + 1, none⟩ = W.cell? ⟨go8, (x2_1 : Int).toNat * 2 + 1, none⟩ := fun W v => World.cell?_setCell_other _ _ _ _ (show (⟨go8, (x2_1 : Int).toNat * 2, none⟩ : Addr) ≠ ⟨go8, (x2_1 : Int).toNat * 2 + 1, none⟩ from by intro h; injection h with _ h2 _; omega)
  have far_sw_9 : ∀ (W : World) (v : Value), (W.setCell ⟨go8, (x2_1 : Int).toNat * 2 + 1, none⟩ v).cell? ⟨go8, (x2_1 : Int).toNat * 2, none⟩ = W.cell? ⟨go8, (x2_1 : Int).toNat * 2, none⟩ := fun W v => World.cell?_setCell_other _ _ _ _ (show (⟨go8, (x2_1 : Int).toNat * 2 + 1, none⟩ : Addr) ≠ ⟨go8, (x2_1 : Int).toNat * 2, none⟩ from by intro h; injection h with _ h2 _; omega)
  have far_sw_10 : ∀ (W : World) (v : Value), (W.setCell ⟨go8, (x3_1 : Int).toNat * 2, none⟩ v).cell? ⟨go8, (x3_1 : Int).toNat * 2 + 1, none⟩ = W.cell? ⟨go8, (x3_1 : Int).toNat * 2 + 1, none⟩ := fun W v => World.cell?_setCell_other _ _ _ _ (show (⟨go8, (x3_1 : Int).toNat * 2, none⟩ : Addr) ≠ ⟨go8, (x3_1 : Int).toNat * 2 + 1, none⟩ from by intro h; injection h with _ h2 _; omega)
  have far_sw_11 : ∀ (W : World) (v : Value), (W.setCell ⟨go8, (x3_1 : Int).toNat * 2 + 1, none⟩ v).cell? ⟨go8, (x3_1 : Int).toNat * 2, none⟩ = W.cell? ⟨go8, (x3_1 : Int).toNat * 2, none⟩ := fun W v => World.cell?_setCell_other _ _ _ _ (show (⟨go8, (x3_1 : Int).toNat * 2 + 1, none⟩ : Addr) ≠ ⟨go8, (x3_1 : Int).toNat * 2, none⟩ from by intro h; injection h with _ h2 _; omega)
  have GG8 := Aside0.mk HG8
  clear gb8 gl8 HG8
  have HMgo8 := Aside0.mk (show (P0_ go8 ∨ w.heap.size ≤ go8) from (HO_0.out.1 _ rfl))
  (first | simp only [add_plain] at hx144_0 | skip)
  (first | simp only [add_plain] at hx144_1 | skip)
  (first | simp only [add_plain] at hx145_0 | skip)
  (first | simp only [add_plain] at hx145_1 | skip)
  obtain ⟨ce8, hcl8, hM8, hcc8, hfr8⟩ := Kd.R_elem HO_0.out z38 (x2_1 : Int) p8 q8
  obtain rfl := k38_openM hM8
  have hx8_0 : World.cell? _ ⟨go8, (x2_1 : Int).toNat * 2, none⟩ = some (.int .i64 ((rd_T38 x0_1 x2_1).f0)) := hcc8 0 _ rfl
  have hx8_1 : World.cell? _ ⟨go8, (x2_1 : Int).toNat * 2 + 1, none⟩ = some (.string ((rd_T38 x0_1 x2_1).f1)) := hcc8 1 _ rfl
  have hf8_0 : World.frozen? _ ⟨go8, (x2_1 : Int).toNat * 2, none⟩ = false := hfr8 0
  have hf8_1 : World.frozen? _ ⟨go8, (x2_1 : Int).toNat * 2 + 1, none⟩ = false := hfr8 1
  clear hcl8 hcc8 hfr8 hM8
  replace p8 := eq_true p8
  replace q8 := eq_true q8
  obtain ⟨ce11, hcl11, hM11, hcc11, hfr11⟩ := Kd.R_elem HO_0.out z38 (x2_1 : Int) (dA) (by have h_ : (x2_1 : Int) < ((x0_1.length : Int) : Int) := dA; first | exact h_ | (have e_ := (Kd.R_reads' HO_0.out).1; omega) | simpa using h_)
  obtain rfl := k38_openM hM11
  have HP11 := (Kd.R_seg HO_0.out (x2_1 : Int) (dA) (by have h_ : (x2_1 : Int) < ((x0_1.length : Int) : Int) := dA; first | exact h_ | (have e_ := (Kd.R_reads' HO_0.out).1; omega) | simpa using h_) (seg := [.int .i64 ((rd_T38 x0_1 x3_1).f0), .string ((rd_T38 x0_1 x3_1).f1)]) (j := 0) hcl11 hcc11 (show 2 ≤ 2 from by decide) (x' := (⟨(rd_T38 x0_1 x3_1).f0, (rd_T38 x0_1 x3_1).f1⟩ : S38)) (k38_mkM _ _ _ (⟨(rd_T38 x0_1 x3_1).f0, (rd_T38 x0_1 x3_1).f1⟩ : S38) ) (fun _ hk => hk)).1
  rw [← Ny146.out] at HP11
  have HQ11 := Aside0.mk HP11
  clear hcl11 hcc11 hfr11 hM11 HP11
  have p9 : 0 ≤ (x3_1 : Int) := dA
  have q9 : (x3_1 : Int) < ((x0_1.length : Int) : Int) := dA
  obtain ⟨ce9, hcl9, hM9, hcc9, hfr9⟩ := Kd.R_elem HQ11.out z38 (x3_1 : Int) p9 q9
  obtain rfl := k38_openM hM9
  have hx9_0 : World.cell? _ ⟨go8, (x3_1 : Int).toNat * 2, none⟩ = some (.int .i64 ((rd_T38 y146 x3_1).f0)) := hcc9 0 _ rfl
  have hx9_1 : World.cell? _ ⟨go8, (x3_1 : Int).toNat * 2 + 1, none⟩ = some (.string ((rd_T38 y146 x3_1).f1)) := hcc9 1 _ rfl
  have hf9_0 : World.frozen? _ ⟨go8, (x3_1 : Int).toNat * 2, none⟩ = false := hfr9 0
  have hf9_1 : World.frozen? _ ⟨go8, (x3_1 : Int).toNat * 2 + 1, none⟩ = false := hfr9 1
  (try simp only [World.frozen?_setCells] at hf9_0 hf9_1)
  clear hcl9 hcc9 hfr9 hM9
  replace p9 := eq_true p9
  replace q9 := eq_true q9
  obtain ⟨ce12, hcl12, hM12, hcc12, hfr12⟩ := Kd.R_elem HQ11.out z38 (x3_1 : Int) (dA) (by have h_ : (x3_1 : Int) < ((x0_1.length : Int) : Int) := dA; first | exact h_ | (have e_ := (Kd.R_reads' HO_0.out).1; omega) | simpa using h_)
  obtain rfl := k38_openM hM12
  have HP12 := (Kd.R_seg HQ11.out (x3_1 : Int) (dA) (by have h_ : (x3_1 : Int) < ((x0_1.length : Int) : Int) := dA; first | exact h_ | (have e_ := (Kd.R_reads' HO_0.out).1; omega) | simpa using h_) (seg := [.int .i64 ((rd_T38 x0_1 x2_1).f0), .string ((rd_T38 x0_1 x2_1).f1)]) (j := 0) hcl12 hcc12 (show 2 ≤ 2 from by decide) (x' := (⟨(rd_T38 x0_1 x2_1).f0, (rd_T38 x0_1 x2_1).f1⟩ : S38)) (k38_mkM _ _ _ (⟨(rd_T38 x0_1 x2_1).f0, (rd_T38 x0_1 x2_1).f1⟩ : S38) ) (fun _ hk => hk)).1
  rw [← Ny147.out] at HP12
  have HQ12 := Aside0.mk HP12
  clear hcl12 hcc12 hfr12 hM12 HP12
  refine start_ (n := 16) (S := fun w' => w'.cell? ⟨go8, ((x3_1).toNat * 2), none⟩ = some (.int .i64 ((rd_T38 x0_1 x3_1).f0)) ∧ w'.cell? ⟨go8, ((x3_1).toNat * 2) + 1, none⟩ = some (.string ((rd_T38 x0_1 x3_1).f1)) ∧ w'.cell? ⟨go8, ((x2_1).toNat * 2), none⟩ = some (.int .i64 ((rd_T38 x0_1 x2_1).f0)) ∧ w'.cell? ⟨go8, ((x2_1).toNat * 2) + 1, none⟩ = some (.string ((rd_T38 x0_1 x2_1).f1))) (ds := [13, 15]) #[false, false, false, false, false, false, false, false, false, false, false, false, false, false, false, false] (by kernel_rfl) rfl rfl ⟨hx144_0, hx144_1, hx145_0, hx145_1⟩ (fun hHeld => ?_); refine with_tabW api_Word_73.tab3 api_Word_73.bits3 (fun HT_ HW_ => ?_)
  generalize wr.drew = w10 at HO_0 HK HB GG8 HQ11 HQ12 hf8_0 hf8_1 hf9_0 hf9_1 hx144_0 hx144_1 hx145_0 hx145_1 hx8_0 hx8_1 hx9_0 hx9_1 hHeld ⊢
  refine pz 0 (some 14) HT_ ?_
  refine pz 1 (some 15) HT_ ?_
  refine pz 2 (some 16) HT_ ?_
  refine pz 3 (some 17) HT_ ?_
  refine pz 4 (some 18) HT_ ?_
  refine pz 5 (some 19) HT_ ?_
  refine pz 6 (some 20) HT_ ?_
  refine pz 8 (some 22) HT_ ?_
  refine pz 9 (some 23) HT_ ?_
  refine pz 10 (some 24) HT_ ?_
  refine tm 7 (some 21) HT_ HW_ hHeld ?_
  refine tm 11 (some 25) HT_ HW_ hHeld ?_
  refine pz 12 (some 26) HT_ ?_
  refine last_ (i := 13) (N := none) #[true, true, true, true, true, true, true, true, true, true, true, true, true, true, false, false] rfl rfl (one_of HT_.out (by kernel_rfl)) (by decide) (fun K hK => ?_)
  refine skip_ (w1 := ?_) (by rfl) rfl ?_ ?_
  rotate_left
  ·go_simp
   rfl
  refine hK.out _ _ ?_
  clear hK K
  refine pz 14 (some 27) HT_ ?_
  refine last_ (i := 15) (N := none) #[true, true, true, true, true, true, true, true, true, true, true, true, true, true, true, true] rfl rfl (one_of HT_.out (by kernel_rfl)) (by decide) (fun K hK => ?_)
  refine skip_ (w1 := ?_) (by rfl) rfl ?_ ?_
  rotate_left
  ·go_simp
   rfl
  refine hK.out _ _ ?_
  clear hK K
  refine done_ (done_of HT_.out (by kernel_rfl)) ?_
  try go_wp2
  (try simp only [← hl0_1])
  go_roundg k1
  case measure => have := HK1.out; omega
  case rel => exact ⟨(y147), (wrap64 (x2_1 + 1)), (wrap64 (x3_1 - 1)), cA, cA, H', ⟨by have := HK1.out; omega⟩, ⟨by (try simp only [hl0_1]); (with_reducible repeat (first | apply Kd.R_alloc | apply Kd.R_drewN | apply Kd.R_drew)); exact HQ12.out⟩, ⟨by repeat (first | (with_reducible first | exact HK.out | apply Kept.alloc | apply Kept.drewN | apply Kept.drew | refine Kept.setCell ?_ HMgo8.out _ | refine Kept.setCell ?_ HMgo8.out _ | refine Kept.setCell ?_ HMgo8.out _ | refine Kept.setCell ?_ HMgo8.out _) | exact HK.out)⟩, ⟨by repeat (first | (with_reducible first | exact HB.out | apply below_alloc | apply pw_below_drewN | apply below_drew1 | refine below_set ?_ GB8.out | refine below_set ?_ GB8.out | refine below_set ?_ GB8.out | refine below_set ?_ GB8.out) | exact HB.out)⟩⟩
mutual
def words_letters.j0 : Nat → ByteArray → ByteArray → Bool → Bool → Option (Int × ByteArray)
 | 0, _, _, _, _ => none
 | k + 1, x3, x149000, x149001, x149002 => if x3.toList = ([97, 108, 112, 104, 97] : List UInt8) then (some (1, (⟨#[]⟩ : ByteArray))) else (if x3.toList = ([98, 101, 116, 97] : List UInt8) then (some (2, (⟨#[]⟩ : ByteArray))) else (if x3.toList = ([109, 105, 108, 101, 115, 116, 111, 110, 101] : List UInt8) then (some (3, (⟨#[]⟩ : ByteArray))) else (if x3.toList = ([114, 99] : List UInt8) then (words_letters.j1 k x3 (x3.toList == ([114, 99] : List UInt8)) x149000 x149001 x149002) else (words_letters.j1 k x3 (x3.toList == ([99, 114] : List UInt8)) x149000 x149001 x149002))))
def words_letters.j1 : Nat → ByteArray → Bool → ByteArray → Bool → Bool → Option (Int × ByteArray)
 | 0, _, _, _, _, _ => none
 | k + 1, x16, x26, x149000, x149001, x149002 => if x26 = true then (some (4, (⟨#[]⟩ : ByteArray))) else (if x16.toList = ([115, 110, 97, 112, 115, 104, 111, 116] : List UInt8) then (some (5, (⟨#[]⟩ : ByteArray))) else (if x16.toList = ([103, 97] : List UInt8) then (words_letters.j2 k x16 (x16.toList == ([103, 97] : List UInt8)) x149000 x149001 x149002) else (if x16.toList = ([102, 105, 110, 97, 108] : List UInt8) then (words_letters.j2 k x16 (x16.toList == ([102, 105, 110, 97, 108] : List UInt8)) x149000 x149001 x149002) else (words_letters.j2 k x16 (x16.toList == ([114, 101, 108, 101, 97, 115, 101] : List UInt8)) x149000 x149001 x149002))))
def words_letters.j2 : Nat → ByteArray → Bool → ByteArray → Bool → Bool → Option (Int × ByteArray)
 | 0, _, _, _, _, _ => none
 | k + 1, x16, x31, x149000, x149001, x149002 => if x31 = true then (some (6, (⟨#[]⟩ : ByteArray))) else (if x16.toList = ([115, 112] : List UInt8) then (some (7, (⟨#[]⟩ : ByteArray))) else (some (8, x149000)))
end
def words_letters.f (k : Nat) (a0_0 : ByteArray) (a0_1 : Bool) (a0_2 : Bool) : Option (Int × ByteArray) := if a0_2 = true then (if a0_0.toList = ([97] : List UInt8) then (words_letters.j0 k (⟨#[97, 108, 112, 104, 97]⟩ : ByteArray) a0_0 a0_1 a0_2) else (if a0_0.toList = ([98] : List UInt8) then (words_letters.j0 k (⟨#[98, 101, 116, 97]⟩ : ByteArray) a0_0 a0_1 a0_2) else (if a0_0.toList = ([109] : List UInt8) then (words_letters.j0 k (⟨#[109, 105, 108, 101, 115, 116, 111, 110, 101]⟩ : ByteArray) a0_0 a0_1 a0_2) else (words_letters.j0 k a0_0 a0_0 a0_1 a0_2)))) else (words_letters.j0 k a0_0 a0_0 a0_1 a0_2)
theorem words_letters.calls (k : Nat) (a0_0 : ByteArray) (a0_1 : Bool) (a0_2 : Bool) (r1 : Int) (r2 : ByteArray) (w : World) (hG : Glob w) (h : words_letters.f k a0_0 a0_1 a0_2 = some (r1, r2)) :
 Calls Tryd.prog 107 #[.agg #[.string a0_0, .bool a0_1, .bool a0_2]] w fun e w' => e = .returned (.agg #[.int .i64 r1, .string r2]) ∧ Below w.heap.size w w' := by
 have hu93 := Tryd.underlying93
 have hu38 := Tryd.underlying38
 have HG := Aside0.mk hG
 clear hG
 have HB := Aside0.mk (Below.refl w.heap.size w)
 have H : (if a0_2 = true then (if a0_0.toList = ([97] : List UInt8) then (words_letters.j0 k (⟨#[97, 108, 112, 104, 97]⟩ : ByteArray) a0_0 a0_1 a0_2) else (if a0_0.toList = ([98] : List UInt8) then (words_letters.j0 k (⟨#[98, 101, 116, 97]⟩ : ByteArray) a0_0 a0_1 a0_2) else (if a0_0.toList = ([109] : List UInt8) then (words_letters.j0 k (⟨#[109, 105, 108, 101, 115, 116, 111, 110, 101]⟩ : ByteArray) a0_0 a0_1 a0_2) else (words_letters.j0 k a0_0 a0_0 a0_1 a0_2)))) else (words_letters.j0 k a0_0 a0_0 a0_1 a0_2)) = some (r1, r2) := h
 clear h
 have HC2 := Aside0.mk H
 clear H
 go_enter Tryd.func107, Tryd.ntmps107
 go_upto_if 8 with (first | (refine be 1 #[.string a0_0, .bool a0_1, .bool a0_2] 93 ?_; intro gb148 hg w3 hbox hb; have BK148 := Aside0.mk (hbox); have GW148 := gW hg; have GE148 := gW hg; replace HB := sB hb; clear hb hbox hg) | (refine be 2 #[.int .i64 0, .string (⟨#[]⟩ : ByteArray)] 38 ?_; intro gb149 hg w4 hbox hb; have BK149 := Aside0.mk (hbox); have GW149 := gW hg; have GE149 := gW hg; replace HB := sB hb; have NB148_149 := nL BK148 hg; have NB149_148 := nG BK148 hg; replace BK148 := kB BK148 hb; clear hb hbox hg; have hnb5 := NB148_149.out; have hnc5 := NB149_148.out; have hcz6_0 : w4.cell? ⟨gb148, 0, none⟩ = some (.string a0_0) := (blk_cell BK148.out 0).trans rfl; have hcz6_1 : w4.cell? ⟨gb148, 1, none⟩ = some (.bool a0_1) := (blk_cell BK148.out 1).trans rfl; have hcz6_2 : w4.cell? ⟨gb148, 2, none⟩ = some (.bool a0_2) := (blk_cell BK148.out 2).trans rfl; have hfz6_0 := blk_frozen BK148.out 0; have hfz6_1 := blk_frozen BK148.out 1; have hfz6_2 := blk_frozen BK148.out 2))
 (try simp only [Act.put, List.setIfInBounds_toArray, List.set_cons_zero, List.set_cons_succ])
 go_cut [3] (fun v3 wc => ∃ (kq : Nat) (x3_1 : ByteArray), v3 = .string x3_1 ∧ Aside0 (words_letters.j0 kq x3_1 a0_0 a0_1 a0_2 = some (r1, r2)) ∧ Aside0 (kq ≤ k) ∧ Aside0 (wc.heap[gb148]? = some (.cells #[.string a0_0, .bool a0_1, .bool a0_2] 93 (0, 0))) ∧ Aside0 (wc.heap[gb149]? = some (.cells #[.int .i64 0, .string (⟨#[]⟩ : ByteArray)] 38 (0, 0))) ∧ Aside0 (Below w.heap.size w wc))
 case first =>
  have H := HC2.out
  clear HC2
  by_cases c7 : a0_2 = true
  rotate_left
  ·replace c7 := Bool.eq_false_iff.mpr c7
   subst c7
   replace H : (words_letters.j0 k a0_0 a0_0 a0_1 false) = some (r1, r2) := by rw [if_neg nF] at H; exact H
   have H' := Aside0.mk H
   clear H
   go_wp2
   go_meet
   case rel => exact ⟨_, (a0_0), cA, H', ⟨by first | omega | exact Nat.le_refl _⟩, ⟨bK BK148⟩, ⟨bK BK149⟩, ⟨bG⟩⟩
  subst c7
  replace H : (if a0_0.toList = ([97] : List UInt8) then (words_letters.j0 k (⟨#[97, 108, 112, 104, 97]⟩ : ByteArray) a0_0 a0_1 true) else (if a0_0.toList = ([98] : List UInt8) then (words_letters.j0 k (⟨#[98, 101, 116, 97]⟩ : ByteArray) a0_0 a0_1 true) else (if a0_0.toList = ([109] : List UInt8) then (words_letters.j0 k (⟨#[109, 105, 108, 101, 115, 116, 111, 110, 101]⟩ : ByteArray) a0_0 a0_1 true) else (words_letters.j0 k a0_0 a0_0 a0_1 true)))) = some (r1, r2) := by rw [if_pos rfl] at H; exact H
  by_cases c8 : a0_0.toList = ([97] : List UInt8)
  ·rw [if_pos c8] at H
   obtain ⟨c8b0, c8b1⟩ := eqT c8
   clear c8
   (first | rw [c8b0] | (simp only [i64_w, i32_w]; rw [c8b0]) | skip)
   have H' := Aside0.mk H
   clear H
   go_wp2
   go_meet
   case rel => exact ⟨_, ((⟨#[97, 108, 112, 104, 97]⟩ : ByteArray)), cA, H', ⟨by first | omega | exact Nat.le_refl _⟩, ⟨bK BK148⟩, ⟨bK BK149⟩, ⟨bG⟩⟩
  rw [if_neg c8] at H
  obtain ⟨c8b0, c8b1⟩ := eqF c8
  (first | rw [c8b0] | (simp only [i64_w, i32_w]; rw [c8b0]) | skip)
  by_cases c9 : a0_0.toList = ([98] : List UInt8)
  ·rw [if_pos c9] at H
   obtain ⟨c9b0, c9b1⟩ := eqT c9
   clear c9
   have H' := Aside0.mk H
   clear H
   go_wp2
   go_meet
   case rel => exact ⟨_, ((⟨#[98, 101, 116, 97]⟩ : ByteArray)), cA, H', ⟨by first | omega | exact Nat.le_refl _⟩, ⟨bK BK148⟩, ⟨bK BK149⟩, ⟨bG⟩⟩
  rw [if_neg c9] at H
  obtain ⟨c9b0, c9b1⟩ := eqF c9
  by_cases c10 : a0_0.toList = ([109] : List UInt8)
  rotate_left
  ·rw [if_neg c10] at H
   obtain ⟨c10b0, c10b1⟩ := eqF c10
   have H' := Aside0.mk H
   clear H
   go_wp2
   go_meet
   case rel => exact ⟨_, (a0_0), cA, H', ⟨by first | omega | exact Nat.le_refl _⟩, ⟨bK BK148⟩, ⟨bK BK149⟩, ⟨bG⟩⟩
  rw [if_pos c10] at H
  obtain ⟨c10b0, c10b1⟩ := eqT c10
  clear c10
  have H' := Aside0.mk H
  clear H
  go_wp2
  go_meet
  case rel => exact ⟨_, ((⟨#[109, 105, 108, 101, 115, 116, 111, 110, 101]⟩ : ByteArray)), cA, H', ⟨by first | omega | exact Nat.le_refl _⟩, ⟨bK BK148⟩, ⟨bK BK149⟩, ⟨bG⟩⟩
 clear HC2
 try clear c1
 try clear p2
 try clear c5
 try clear c7
 try clear c8
 try clear c8b0
 try clear c8b1
 try clear c9
 try clear c9b0
 try clear c9b1
 try clear c10
 try clear c10b0
 try clear c10b1
 try clear hcz6_0
 try clear hcz6_1
 try clear hcz6_2
 try clear hfz6_0
 try clear hfz6_1
 try clear hfz6_2
 obtain ⟨kq, x3_1, rfl, HA, HJ1, BK148, BK149, HB⟩ := hcut
 cases kq with
 | zero => exact absurd HA.out (by simp [words_letters.j0])
 | succ kj1 =>
  have H := HA.out
  clear HA
  simp only [words_letters.j0] at H
  (try simp only [toList_lit] at H)
  by_cases c11 : x3_1.toList = ([97, 108, 112, 104, 97] : List UInt8)
  ·rw [if_pos c11] at H
   obtain ⟨c11b0, c11b1⟩ := eqT c11
   clear c11
   simp only [Option.some.injEq, Prod.mk.injEq] at H
   obtain ⟨rfl, rfl⟩ := H
   have hnb12 := NB149_148.out
   have hnc12 := NB148_149.out
   obtain ⟨hcz13_0, hcz13_1, hfz13_0, hfz13_1⟩ := cells2 BK149
   go_wp2
   refine bodyPost_ret (results_cell_row rfl _ _ gb149 38 #[.int .i64 1, .string (⟨#[]⟩ : ByteArray)] (0, 0) _ rfl (bP BK149) Tryd.underlying38 rfl (by kernel_rfl)) rfl ?_
   exact ⟨eA, bG⟩
  rw [if_neg c11] at H
  obtain ⟨c11b0, c11b1⟩ := eqF c11
  by_cases c14 : x3_1.toList = ([98, 101, 116, 97] : List UInt8)
  ·rw [if_pos c14] at H
   obtain ⟨c14b0, c14b1⟩ := eqT c14
   clear c14
   simp only [Option.some.injEq, Prod.mk.injEq] at H
   obtain ⟨rfl, rfl⟩ := H
   have hnb15 := NB149_148.out
   have hnc15 := NB148_149.out
   obtain ⟨hcz16_0, hcz16_1, hfz16_0, hfz16_1⟩ := cells2 BK149
   go_wp2
   refine bodyPost_ret (results_cell_row rfl _ _ gb149 38 #[.int .i64 2, .string (⟨#[]⟩ : ByteArray)] (0, 0) _ rfl (bP BK149) Tryd.underlying38 rfl (by kernel_rfl)) rfl ?_
   exact ⟨eA, bG⟩
  rw [if_neg c14] at H
  obtain ⟨c14b0, c14b1⟩ := eqF c14
  by_cases c17 : x3_1.toList = ([109, 105, 108, 101, 115, 116, 111, 110, 101] : List UInt8)
  ·rw [if_pos c17] at H
   obtain ⟨c17b0, c17b1⟩ := eqT c17
   clear c17
   simp only [Option.some.injEq, Prod.mk.injEq] at H
   obtain ⟨rfl, rfl⟩ := H
   have hnb18 := NB149_148.out
   have hnc18 := NB148_149.out
   obtain ⟨hcz19_0, hcz19_1, hfz19_0, hfz19_1⟩ := cells2 BK149
   go_wp2
   refine bodyPost_ret (results_cell_row rfl _ _ gb149 38 #[.int .i64 3, .string (⟨#[]⟩ : ByteArray)] (0, 0) _ rfl (bP BK149) Tryd.underlying38 rfl (by kernel_rfl)) rfl ?_
   exact ⟨eA, bG⟩
  rw [if_neg c17] at H
  obtain ⟨c17b0, c17b1⟩ := eqF c17
  have HC20 := Aside0.mk H
  clear H
  go_upto_if 26 with (fail)
  go_cut [26] (fun v26 wc => ∃ (kq : Nat) (x26_19 : Bool), v26 = .bool x26_19 ∧ Aside0 (words_letters.j1 kq x3_1 x26_19 a0_0 a0_1 a0_2 = some (r1, r2)) ∧ Aside0 (kq ≤ kj1) ∧ Aside0 (wc.heap[gb148]? = some (.cells #[.string a0_0, .bool a0_1, .bool a0_2] 93 (0, 0))) ∧ Aside0 (wc.heap[gb149]? = some (.cells #[.int .i64 0, .string (⟨#[]⟩ : ByteArray)] 38 (0, 0))) ∧ Aside0 (Below w.heap.size w wc))
  case first =>
   have H := HC20.out
   clear HC20
   by_cases c21 : x3_1.toList = ([114, 99] : List UInt8)
   rotate_left
   ·rw [if_neg c21] at H
    obtain ⟨c21b0, c21b1⟩ := eqF c21
    (first | rw [c21b0] | (simp only [i64_w, i32_w]; rw [c21b0]) | skip)
    have H' := Aside0.mk H
    clear H
    go_wp2
    go_meet
    case rel => exact ⟨_, ((x3_1.toList == ([99, 114] : List UInt8))), cA, H', ⟨by have := HJ1.out; first | omega | exact Nat.le_refl _⟩, ⟨bK BK148⟩, ⟨bK BK149⟩, ⟨bG⟩⟩
   rw [if_pos c21] at H
   obtain ⟨c21b0, c21b1⟩ := eqT c21
   clear c21
   (first | rw [c21b0] | (simp only [i64_w, i32_w]; rw [c21b0]) | skip)
   have H' := Aside0.mk H
   clear H
   go_wp2
   go_meet
   case rel => exact ⟨_, ((x3_1.toList == ([114, 99] : List UInt8))), cA, H', ⟨by have := HJ1.out; first | omega | exact Nat.le_refl _⟩, ⟨bK BK148⟩, ⟨bK BK149⟩, ⟨bG⟩⟩
  clear HC20
  try clear c1
  try clear c2
  try clear p2
  try clear c5
  try clear c7
  try clear c8
  try clear c8b0
  try clear c8b1
  try clear c9
  try clear c9b0
  try clear c9b1
  try clear c10
  try clear c10b0
  try clear c10b1
  try clear c11
  try clear c11b0
  try clear c11b1
  try clear c12
  try clear c14
  try clear c14b0
  try clear c14b1
  try clear c15
  try clear c17
  try clear c17b0
  try clear c17b1
  try clear c18
  try clear c21
  try clear c21b0
  try clear c21b1
  try clear hcz13_0
  try clear hcz13_1
  try clear hcz16_0
  try clear hcz16_1
  try clear hcz19_0
  try clear hcz19_1
  try clear hcz6_0
  try clear hcz6_1
  try clear hcz6_2
  try clear hfz13_0
  try clear hfz13_1
  try clear hfz16_0
  try clear hfz16_1
  try clear hfz19_0
  try clear hfz19_1
  try clear hfz6_0
  try clear hfz6_1
  try clear hfz6_2
  try clear p2
  obtain ⟨kq, x26_19, rfl, HA, HJ19, BK148, BK149, HB⟩ := hcut
  cases kq with
  | zero => exact absurd HA.out (by simp [words_letters.j1])
  | succ kj19 =>
   have H := HA.out
   clear HA
   simp only [words_letters.j1] at H
   (try simp only [toList_lit] at H)
   by_cases c22 : x26_19 = true
   ·subst c22
    replace H : (some (4, (⟨#[]⟩ : ByteArray))) = some (r1, r2) := by rw [if_pos rfl] at H; exact H
    simp only [Option.some.injEq, Prod.mk.injEq] at H
    obtain ⟨rfl, rfl⟩ := H
    have hnb23 := NB149_148.out
    have hnc23 := NB148_149.out
    obtain ⟨hcz24_0, hcz24_1, hfz24_0, hfz24_1⟩ := cells2 BK149
    go_wp2
    refine bodyPost_ret (results_cell_row rfl _ _ gb149 38 #[.int .i64 4, .string (⟨#[]⟩ : ByteArray)] (0, 0) _ rfl (bP BK149) Tryd.underlying38 rfl (by kernel_rfl)) rfl ?_
    exact ⟨eA, bG⟩
   replace c22 := Bool.eq_false_iff.mpr c22
   subst c22
   replace H : (if x3_1.toList = ([115, 110, 97, 112, 115, 104, 111, 116] : List UInt8) then (some (5, (⟨#[]⟩ : ByteArray))) else (if x3_1.toList = ([103, 97] : List UInt8) then (words_letters.j2 kj19 x3_1 (x3_1.toList == ([103, 97] : List UInt8)) a0_0 a0_1 a0_2) else (if x3_1.toList = ([102, 105, 110, 97, 108] : List UInt8) then (words_letters.j2 kj19 x3_1 (x3_1.toList == ([102, 105, 110, 97, 108] : List UInt8)) a0_0 a0_1 a0_2) else (words_letters.j2 kj19 x3_1 (x3_1.toList == ([114, 101, 108, 101, 97, 115, 101] : List UInt8)) a0_0 a0_1 a0_2)))) = some (r1, r2) := by rw [if_neg nF] at H; exact H
   by_cases c25 : x3_1.toList = ([115, 110, 97, 112, 115, 104, 111, 116] : List UInt8)
   ·rw [if_pos c25] at H
    obtain ⟨c25b0, c25b1⟩ := eqT c25
    clear c25
    simp only [Option.some.injEq, Prod.mk.injEq] at H
    obtain ⟨rfl, rfl⟩ := H
    have hnb26 := NB149_148.out
    have hnc26 := NB148_149.out
    obtain ⟨hcz27_0, hcz27_1, hfz27_0, hfz27_1⟩ := cells2 BK149
    go_wp2
    refine bodyPost_ret (results_cell_row rfl _ _ gb149 38 #[.int .i64 5, .string (⟨#[]⟩ : ByteArray)] (0, 0) _ rfl (bP BK149) Tryd.underlying38 rfl (by kernel_rfl)) rfl ?_
    exact ⟨eA, bG⟩
   rw [if_neg c25] at H
   obtain ⟨c25b0, c25b1⟩ := eqF c25
   have HC28 := Aside0.mk H
   clear H
   go_upto_if 31 with (fail)
   go_cut [31] (fun v31 wc => ∃ (kq : Nat) (x31_27 : Bool), v31 = .bool x31_27 ∧ Aside0 (words_letters.j2 kq x3_1 x31_27 a0_0 a0_1 a0_2 = some (r1, r2)) ∧ Aside0 (kq ≤ kj19) ∧ Aside0 (wc.heap[gb148]? = some (.cells #[.string a0_0, .bool a0_1, .bool a0_2] 93 (0, 0))) ∧ Aside0 (wc.heap[gb149]? = some (.cells #[.int .i64 0, .string (⟨#[]⟩ : ByteArray)] 38 (0, 0))) ∧ Aside0 (Below w.heap.size w wc))
   case first =>
    have H := HC28.out
    clear HC28
    by_cases c29 : x3_1.toList = ([103, 97] : List UInt8)
    ·rw [if_pos c29] at H
     obtain ⟨c29b0, c29b1⟩ := eqT c29
     clear c29
     (first | rw [c29b0] | (simp only [i64_w, i32_w]; rw [c29b0]) | skip)
     have H' := Aside0.mk H
     clear H
     go_wp2
     go_meet
     case rel => exact ⟨_, ((x3_1.toList == ([103, 97] : List UInt8))), cA, H', ⟨by have := HJ1.out; have := HJ19.out; first | omega | exact Nat.le_refl _⟩, ⟨bK BK148⟩, ⟨bK BK149⟩, ⟨bG⟩⟩
    rw [if_neg c29] at H
    obtain ⟨c29b0, c29b1⟩ := eqF c29
    (first | rw [c29b0] | (simp only [i64_w, i32_w]; rw [c29b0]) | skip)
    by_cases c30 : x3_1.toList = ([102, 105, 110, 97, 108] : List UInt8)
    rotate_left
    ·rw [if_neg c30] at H
     obtain ⟨c30b0, c30b1⟩ := eqF c30
     have H' := Aside0.mk H
     clear H
     go_wp2
     go_meet
     case rel => exact ⟨_, ((x3_1.toList == ([114, 101, 108, 101, 97, 115, 101] : List UInt8))), cA, H', ⟨by have := HJ1.out; have := HJ19.out; first | omega | exact Nat.le_refl _⟩, ⟨bK BK148⟩, ⟨bK BK149⟩, ⟨bG⟩⟩
    rw [if_pos c30] at H
    obtain ⟨c30b0, c30b1⟩ := eqT c30
    clear c30
    have H' := Aside0.mk H
    clear H
    go_wp2
    go_meet
    case rel => exact ⟨_, ((x3_1.toList == ([102, 105, 110, 97, 108] : List UInt8))), cA, H', ⟨by have := HJ1.out; have := HJ19.out; first | omega | exact Nat.le_refl _⟩, ⟨bK BK148⟩, ⟨bK BK149⟩, ⟨bG⟩⟩
   clear HC28
   try clear c1
   try clear c2
   try clear p2
   try clear c3
   try clear c5
   try clear c7
   try clear c8
   try clear c8b0
   try clear c8b1
   try clear c9
   try clear c9b0
   try clear c9b1
   try clear c10
   try clear c10b0
   try clear c10b1
   try clear c11
   try clear c11b0
   try clear c11b1
   try clear c12
   try clear c14
   try clear c14b0
   try clear c14b1
   try clear c15
   try clear c17
   try clear c17b0
   try clear c17b1
   try clear c18
   try clear c21
   try clear c21b0
   try clear c21b1
   try clear c22
   try clear c23
   try clear c25
   try clear c25b0
   try clear c25b1
   try clear c26
   try clear c29
   try clear c29b0
   try clear c29b1
   try clear c30
   try clear c30b0
   try clear c30b1
   try clear hcz13_0
   try clear hcz13_1
   try clear hcz16_0
   try clear hcz16_1
   try clear hcz19_0
   try clear hcz19_1
   try clear hcz24_0
   try clear hcz24_1
   try clear hcz27_0
   try clear hcz27_1
   try clear hcz6_0
   try clear hcz6_1
   try clear hcz6_2
   try clear hfz13_0
   try clear hfz13_1
   try clear hfz16_0
   try clear hfz16_1
   try clear hfz19_0
   try clear hfz19_1
   try clear hfz24_0
   try clear hfz24_1
   try clear hfz27_0
   try clear hfz27_1
   try clear hfz6_0
   try clear hfz6_1
   try clear hfz6_2
   try clear p2
   obtain ⟨kq, x31_27, rfl, HA, HJ27, BK148, BK149, HB⟩ := hcut
   cases kq with
   | zero => exact absurd HA.out (by simp [words_letters.j2])
   | succ kj27 =>
    have H := HA.out
    clear HA
    simp only [words_letters.j2] at H
    (try simp only [toList_lit] at H)
    by_cases c31 : x31_27 = true
    ·subst c31
     replace H : (some (6, (⟨#[]⟩ : ByteArray))) = some (r1, r2) := by rw [if_pos rfl] at H; exact H
     simp only [Option.some.injEq, Prod.mk.injEq] at H
     obtain ⟨rfl, rfl⟩ := H
     have hnb32 := NB149_148.out
     have hnc32 := NB148_149.out
     obtain ⟨hcz33_0, hcz33_1, hfz33_0, hfz33_1⟩ := cells2 BK149
     go_wp2
     refine bodyPost_ret (results_cell_row rfl _ _ gb149 38 #[.int .i64 6, .string (⟨#[]⟩ : ByteArray)] (0, 0) _ rfl (bP BK149) Tryd.underlying38 rfl (by kernel_rfl)) rfl ?_
     exact ⟨eA, bG⟩
    replace c31 := Bool.eq_false_iff.mpr c31
    subst c31
    replace H : (if x3_1.toList = ([115, 112] : List UInt8) then (some (7, (⟨#[]⟩ : ByteArray))) else (some (8, a0_0))) = some (r1, r2) := by rw [if_neg nF] at H; exact H
    by_cases c34 : x3_1.toList = ([115, 112] : List UInt8)
    rotate_left
    ·rw [if_neg c34] at H
     obtain ⟨c34b0, c34b1⟩ := eqF c34
     simp only [Option.some.injEq, Prod.mk.injEq] at H
     obtain ⟨rfl, rfl⟩ := H
     have hnb37 := NB148_149.out
     have hnc37 := NB149_148.out
     obtain ⟨hcz38_0, hcz38_1, hcz38_2, hfz38_0, hfz38_1, hfz38_2⟩ := cells3 BK148
     obtain ⟨hcz39_0, hcz39_1, hfz39_0, hfz39_1⟩ := cells2 BK149
     go_wp2
     refine bodyPost_ret (results_cell_row rfl _ _ gb149 38 #[.int .i64 8, .string a0_0] (0, 0) _ rfl (bP BK149) Tryd.underlying38 rfl (by kernel_rfl)) rfl ?_
     exact ⟨eA, bG⟩
    rw [if_pos c34] at H
    obtain ⟨c34b0, c34b1⟩ := eqT c34
    clear c34
    simp only [Option.some.injEq, Prod.mk.injEq] at H
    obtain ⟨rfl, rfl⟩ := H
    have hnb35 := NB149_148.out
    have hnc35 := NB148_149.out
    obtain ⟨hcz36_0, hcz36_1, hfz36_0, hfz36_1⟩ := cells2 BK149
    go_wp2
    refine bodyPost_ret (results_cell_row rfl _ _ gb149 38 #[.int .i64 7, .string (⟨#[]⟩ : ByteArray)] (0, 0) _ rfl (bP BK149) Tryd.underlying38 rfl (by kernel_rfl)) rfl ?_
    exact ⟨eA, bG⟩
def strings_TrimLeft.f (a0 a1 : ByteArray) : Option ByteArray := if a1.size = 1 ∧ (a1.data.toList.getD 0 0).toNat < 128 then some ⟨(Lib.trimLeftB a0.data.toList (a1.data.toList.getD 0 0)).toArray⟩ else none
theorem strings_TrimLeft.calls (a0 a1 : ByteArray) (r : ByteArray) (w : World) (hG : Glob w) (h : strings_TrimLeft.f a0 a1 = some r) :
 Calls Tryd.prog 108 #[.string a0, .string a1] w fun e w' => e = .returned (.string r) ∧ Drawn0 w w' := by
 unfold strings_TrimLeft.f at h
 split at h
 ·rename_i hs
  obtain rfl := Option.some.inj h
  obtain ⟨c, rfl⟩ : ∃ c : UInt8, a1 = ⟨#[c]⟩ := by
   rcases a1 with ⟨⟨l⟩⟩
   match l, hs.1 with
   | [c], _ => exact ⟨c, rfl⟩
  exact (Tryd.strings_TrimLeft_one a0 c hs.2 w).mono fun e w' hh => ⟨hh.1, ⟨⟨0, hh.2⟩⟩⟩
 ·exact absurd h (by simp)
def words_word.j0 : Nat → Bool → ByteArray → Bool → Bool → Option (Int × ByteArray)
 | 0, _, _, _, _ => none
 | k + 1, x13, x151000, x151001, x151002 => if x13 = true then ((words_letters.f k x151000 x151001 x151002).bind fun bt153 => (some (bt153.1, bt153.2))) else ((strings_TrimLeft.f x151000 (⟨#[48]⟩ : ByteArray)).bind fun t155 => (if t155.toList = ([] : List UInt8) then (some (6, (⟨#[]⟩ : ByteArray))) else (if x151001 = true then (some (9, t155)) else (some (10, t155)))))
def words_word.f (k : Nat) (a0_0 : ByteArray) (a0_1 : Bool) (a0_2 : Bool) : Option (Int × ByteArray) := if a0_0.toList = ([] : List UInt8) then (words_word.j0 k false a0_0 a0_1 a0_2) else (if 0 < (a0_0.size : Int) then ((chars_Digit.f (bt a0_0 0)).bind fun t152 => (words_word.j0 k (!t152) a0_0 a0_1 a0_2)) else (none))
theorem words_word.calls (k : Nat) (a0_0 : ByteArray) (a0_1 : Bool) (a0_2 : Bool) (r1 : Int) (r2 : ByteArray) (w : World) (hG : Glob w) (h : words_word.f k a0_0 a0_1 a0_2 = some (r1, r2)) :
 Calls Tryd.prog 74 #[.agg #[.string a0_0, .bool a0_1, .bool a0_2]] w fun e w' => e = .returned (.agg #[.int .i64 r1, .string r2]) ∧ Below w.heap.size w w' := by
 have hu93 := Tryd.underlying93
 have hu38 := Tryd.underlying38
 have HG := Aside0.mk hG
 clear hG
 have HB := Aside0.mk (Below.refl w.heap.size w)
 have H : (if a0_0.toList = ([] : List UInt8) then (words_word.j0 k false a0_0 a0_1 a0_2) else (if 0 < (a0_0.size : Int) then ((chars_Digit.f (bt a0_0 0)).bind fun t152 => (words_word.j0 k (!t152) a0_0 a0_1 a0_2)) else (none))) = some (r1, r2) := h
 clear h
 have HC2 := Aside0.mk H
 clear H
 go_enter Tryd.func74, Tryd.ntmps74
 go_upto_region 1 with (first | (refine be 1 #[.string a0_0, .bool a0_1, .bool a0_2] 93 ?_; intro gb150 hg w3 hbox hb; have BK150 := Aside0.mk (hbox); have GW150 := gW hg; have GE150 := gW hg; replace HB := sB hb; clear hb hbox hg) | (refine be 2 #[.int .i64 0, .string (⟨#[]⟩ : ByteArray)] 38 ?_; intro gb151 hg w4 hbox hb; have BK151 := Aside0.mk (hbox); have GW151 := gW hg; have GE151 := gW hg; replace HB := sB hb; have NB150_151 := nL BK150 hg; have NB151_150 := nG BK150 hg; replace BK150 := kB BK150 hb; clear hb hbox hg))
 (try simp only [Act.put, List.setIfInBounds_toArray, List.set_cons_zero, List.set_cons_succ])
 go_cut [13] (fun v13 wc => ∃ (kq : Nat) (x13_1 : Bool), v13 = .bool x13_1 ∧ Aside0 (words_word.j0 kq x13_1 a0_0 a0_1 a0_2 = some (r1, r2)) ∧ Aside0 (kq ≤ k) ∧ Aside0 (wc.heap[gb150]? = some (.cells #[.string a0_0, .bool a0_1, .bool a0_2] 93 (0, 0))) ∧ Aside0 (wc.heap[gb151]? = some (.cells #[.int .i64 0, .string (⟨#[]⟩ : ByteArray)] 38 (0, 0))) ∧ Aside0 (Below w.heap.size w wc))
 case first =>
  have H := HC2.out
  clear HC2
  by_cases c5 : a0_0.toList = ([] : List UInt8)
  ·rw [if_pos c5] at H
   obtain ⟨c5b0, c5b1⟩ := eqT c5
   (try (have c5b2 : a0_0.toList.isEmpty = true := by simpa using c5))
   clear c5
   (first | rw [c5b0] | rw [c5b2] | (simp only [i64_w, i32_w]; rw [c5b0]) | skip)
   have H' := Aside0.mk H
   clear H
   have hnb6 := NB150_151.out
   have hnc6 := NB151_150.out
   obtain ⟨hcz7_0, hcz7_1, hcz7_2, hfz7_0, hfz7_1, hfz7_2⟩ := cells3 BK150
   go_wp2
   go_meet
   case rel => exact ⟨_, (false), cA, H', ⟨by first | omega | exact Nat.le_refl _⟩, ⟨bK BK150⟩, ⟨bK BK151⟩, ⟨bG⟩⟩
  rw [if_neg c5] at H
  obtain ⟨c5b0, c5b1⟩ := eqF c5
  (try (have c5b2 : a0_0.toList.isEmpty = false := by simpa using c5))
  (first | rw [c5b0] | rw [c5b2] | (simp only [i64_w, i32_w]; rw [c5b0]) | skip)
  obtain ⟨c8, H⟩ := gp H
  have c8b0 := dT c8
  have c8b1 : decide (0 < a0_0.size) = true := decide_eq_true (by omega)
  clear c8
  replace H := bi H
  obtain ⟨t152, A100, H⟩ := H
  try dsimp only at H
  have A10 := Aside0.mk A100
  clear A100
  have H' := Aside0.mk H
  clear H
  have hnb11 := NB150_151.out
  have hnc11 := NB151_150.out
  obtain ⟨hcz12_0, hcz12_1, hcz12_2, hfz12_0, hfz12_1, hfz12_2⟩ := cells3 BK150
  have p9 : 0 ≤ (0 : Int) := (by omega)
  have q9 : 0 < a0_0.size := (by have : (0 : Int) < (a0_0.size : Int) := dA; omega)
  have hx9 : ∀ h : 0 < a0_0.size, ((a0_0[0]'h).toNat : Int) = bt a0_0 0 := bt_at a0_0 0
  clear p9
  have qi9 : (0 < (a0_0.size : Int)) = True := eq_true (dA)
  replace q9 := eq_true q9
  go_wp2_with (first | (go_at_call 106; (with_reducible refine (chars_Digit.calls (bt a0_0 0) t152 _ (gS HG) A10.out).mono ?_); rintro e w' ⟨rfl, ⟨nd, rfl⟩⟩))
  go_meet
  case rel => exact ⟨_, (!t152), cA, H', ⟨by first | omega | exact Nat.le_refl _⟩, ⟨bK BK150⟩, ⟨bK BK151⟩, ⟨bG⟩⟩
 clear HC2
 try clear c1
 try clear p2
 try clear c5
 try clear c5b0
 try clear c5b1
 try clear c5b2
 try clear c6
 try clear c7
 try clear c8
 try clear c8b0
 try clear c8b1
 try clear p9
 try clear q9
 try clear hx9
 try clear qi9
 try clear c11
 try clear hcz12_0
 try clear hcz12_1
 try clear hcz12_2
 try clear hcz7_0
 try clear hcz7_1
 try clear hcz7_2
 try clear hfz12_0
 try clear hfz12_1
 try clear hfz12_2
 try clear hfz7_0
 try clear hfz7_1
 try clear hfz7_2
 try clear p9
 try clear q9
 obtain ⟨kq, x13_1, rfl, HA, HJ1, BK150, BK151, HB⟩ := hcut
 cases kq with
 | zero => exact absurd HA.out (by simp [words_word.j0])
 | succ kj1 =>
  have H := HA.out
  clear HA
  simp only [words_word.j0] at H
  (try simp only [toList_lit] at H)
  by_cases c13 : x13_1 = true
  ·subst c13
   replace H : ((words_letters.f kj1 a0_0 a0_1 a0_2).bind fun bt153 => (some (bt153.1, bt153.2))) = some (r1, r2) := by rw [if_pos rfl] at H; exact H
   replace H := bi H
   obtain ⟨⟨t153, t154⟩, A140, H⟩ := H
   try dsimp only at H
   have A14 := Aside0.mk A140
   clear A140
   simp only [Option.some.injEq, Prod.mk.injEq] at H
   obtain ⟨rfl, rfl⟩ := H
   have hnb15 := NB150_151.out
   have hnc15 := NB151_150.out
   obtain ⟨hcz16_0, hcz16_1, hcz16_2, hfz16_0, hfz16_1, hfz16_2⟩ := cells3 BK150
   go_wp2_with (first | (refine gl (some 15) Tryd.func107 #[.agg #[.string a0_0, .bool a0_1, .bool a0_2]] ?_; (with_reducible refine (words_letters.calls kj1 a0_0 a0_1 a0_2 t153 t154 _ (gS HG) A14.out).mono ?_); rintro e w17 ⟨rfl, hb⟩; refine ⟨_, rfl, ?_⟩; replace BK150 := kB BK150 hb; replace BK151 := kB BK151 hb; replace HB := sB hb; (try clear hb); have hcz18_0 : w17.cell? ⟨gb151, 0, none⟩ = some (.int .i64 0) := (blk_cell BK151.out 0).trans rfl; have hcz18_1 : w17.cell? ⟨gb151, 1, none⟩ = some (.string (⟨#[]⟩ : ByteArray)) := (blk_cell BK151.out 1).trans rfl; have hfz18_0 := blk_frozen BK151.out 0; have hfz18_1 := blk_frozen BK151.out 1))
   refine bodyPost_ret (results_cell_row rfl _ _ gb151 38 #[.int .i64 t153, .string t154] (0, 0) _ rfl (bP BK151) Tryd.underlying38 rfl (by kernel_rfl)) rfl ?_
   exact ⟨eA, bG⟩
  replace c13 := Bool.eq_false_iff.mpr c13
  subst c13
  replace H : ((strings_TrimLeft.f a0_0 (⟨#[48]⟩ : ByteArray)).bind fun t155 => (if t155.toList = ([] : List UInt8) then (some (6, (⟨#[]⟩ : ByteArray))) else (if a0_1 = true then (some (9, t155)) else (some (10, t155))))) = some (r1, r2) := by rw [if_neg nF] at H; exact H
  replace H := bi H
  obtain ⟨t155, A190, H⟩ := H
  try dsimp only at H
  have A19 := Aside0.mk A190
  clear A190
  by_cases c20 : t155.toList = ([] : List UInt8)
  ·rw [if_pos c20] at H
   obtain ⟨c20b0, c20b1⟩ := eqT c20
   (try (have c20b2 : t155.toList.isEmpty = true := by simpa using c20))
   clear c20
   simp only [Option.some.injEq, Prod.mk.injEq] at H
   obtain ⟨rfl, rfl⟩ := H
   have hnb21 := NB150_151.out
   have hnc21 := NB151_150.out
   obtain ⟨hcz22_0, hcz22_1, hcz22_2, hfz22_0, hfz22_1, hfz22_2⟩ := cells3 BK150
   go_wp2_with (first | (refine gl (some 18) Tryd.func108 #[.string a0_0, .string (⟨#[48]⟩ : ByteArray)] ?_; (with_reducible refine (strings_TrimLeft.calls a0_0 (⟨#[48]⟩ : ByteArray) t155 _ (gS HG) A19.out).mono ?_); rintro e w' ⟨rfl, ⟨nd, rfl⟩⟩; refine ⟨_, rfl, ?_⟩; (try (rw [drewN_self wc]; generalize hq_ : World.drewN wc _ = wc; have n0_ : Aside0 (wc.heap[gb150]? = some (.cells #[.string a0_0, .bool a0_1, .bool a0_2] 93 (0, 0))) := ⟨by rw [← hq_]; exact (bK BK150)⟩; have n1_ : Aside0 (wc.heap[gb151]? = some (.cells #[.int .i64 0, .string (⟨#[]⟩ : ByteArray)] 38 (0, 0))) := ⟨by rw [← hq_]; exact (bK BK151)⟩; have n2_ : Aside0 (Below w.heap.size w wc) := ⟨by rw [← hq_]; exact bG⟩; clear BK150 BK151 HB hq_; have BK150 := n0_; have BK151 := n1_; have HB := n2_; clear n0_ n1_ n2_; have hcz22_0 : wc.cell? ⟨gb150, 0, none⟩ = some (.string a0_0) := (blk_cell BK150.out 0).trans rfl; have hcz22_1 : wc.cell? ⟨gb150, 1, none⟩ = some (.bool a0_1) := (blk_cell BK150.out 1).trans rfl; have hcz22_2 : wc.cell? ⟨gb150, 2, none⟩ = some (.bool a0_2) := (blk_cell BK150.out 2).trans rfl; have hfz22_0 := blk_frozen BK150.out 0; have hfz22_1 := blk_frozen BK150.out 1; have hfz22_2 := blk_frozen BK150.out 2)); have hcz23_0 : wc.cell? ⟨gb151, 0, none⟩ = some (.int .i64 0) := (blk_cell BK151.out 0).trans rfl; have hcz23_1 : wc.cell? ⟨gb151, 1, none⟩ = some (.string (⟨#[]⟩ : ByteArray)) := (blk_cell BK151.out 1).trans rfl; have hfz23_0 := blk_frozen BK151.out 0; have hfz23_1 := blk_frozen BK151.out 1))
   refine bodyPost_ret (results_cell_row rfl _ _ gb151 38 #[.int .i64 6, .string (⟨#[]⟩ : ByteArray)] (0, 0) _ rfl (bP BK151) Tryd.underlying38 rfl (by kernel_rfl)) rfl ?_
   exact ⟨eA, bG⟩
  rw [if_neg c20] at H
  obtain ⟨c20b0, c20b1⟩ := eqF c20
  (try (have c20b2 : t155.toList.isEmpty = false := by simpa using c20))
  by_cases c24 : a0_1 = true
  ·subst c24
   replace H : (some (9, t155)) = some (r1, r2) := by rw [if_pos rfl] at H; exact H
   simp only [Option.some.injEq, Prod.mk.injEq] at H
   obtain ⟨rfl, rfl⟩ := H
   have hnb25 := NB150_151.out
   have hnc25 := NB151_150.out
   obtain ⟨hcz26_0, hcz26_1, hcz26_2, hfz26_0, hfz26_1, hfz26_2⟩ := cells3 BK150
   go_wp2_with (first | (refine gl (some 18) Tryd.func108 #[.string a0_0, .string (⟨#[48]⟩ : ByteArray)] ?_; (with_reducible refine (strings_TrimLeft.calls a0_0 (⟨#[48]⟩ : ByteArray) t155 _ (gS HG) A19.out).mono ?_); rintro e w' ⟨rfl, ⟨nd, rfl⟩⟩; refine ⟨_, rfl, ?_⟩; (try (rw [drewN_self wc]; generalize hq_ : World.drewN wc _ = wc; have n0_ : Aside0 (wc.heap[gb150]? = some (.cells #[.string a0_0, .bool true, .bool a0_2] 93 (0, 0))) := ⟨by rw [← hq_]; exact (bK BK150)⟩; have n1_ : Aside0 (wc.heap[gb151]? = some (.cells #[.int .i64 0, .string (⟨#[]⟩ : ByteArray)] 38 (0, 0))) := ⟨by rw [← hq_]; exact (bK BK151)⟩; have n2_ : Aside0 (Below w.heap.size w wc) := ⟨by rw [← hq_]; exact bG⟩; clear BK150 BK151 HB hq_; have BK150 := n0_; have BK151 := n1_; have HB := n2_; clear n0_ n1_ n2_; have hcz26_0 : wc.cell? ⟨gb150, 0, none⟩ = some (.string a0_0) := (blk_cell BK150.out 0).trans rfl; have hcz26_1 : wc.cell? ⟨gb150, 1, none⟩ = some (.bool true) := (blk_cell BK150.out 1).trans rfl; have hcz26_2 : wc.cell? ⟨gb150, 2, none⟩ = some (.bool a0_2) := (blk_cell BK150.out 2).trans rfl; have hfz26_0 := blk_frozen BK150.out 0; have hfz26_1 := blk_frozen BK150.out 1; have hfz26_2 := blk_frozen BK150.out 2)); have hcz27_0 : wc.cell? ⟨gb151, 0, none⟩ = some (.int .i64 0) := (blk_cell BK151.out 0).trans rfl; have hcz27_1 : wc.cell? ⟨gb151, 1, none⟩ = some (.string (⟨#[]⟩ : ByteArray)) := (blk_cell BK151.out 1).trans rfl; have hfz27_0 := blk_frozen BK151.out 0; have hfz27_1 := blk_frozen BK151.out 1))
   refine bodyPost_ret (results_cell_row rfl _ _ gb151 38 #[.int .i64 9, .string t155] (0, 0) _ rfl (bP BK151) Tryd.underlying38 rfl (by kernel_rfl)) rfl ?_
   exact ⟨eA, bG⟩
  replace c24 := Bool.eq_false_iff.mpr c24
  subst c24
  replace H : (some (10, t155)) = some (r1, r2) := by rw [if_neg nF] at H; exact H
  simp only [Option.some.injEq, Prod.mk.injEq] at H
  obtain ⟨rfl, rfl⟩ := H
  have hnb28 := NB150_151.out
  have hnc28 := NB151_150.out
  obtain ⟨hcz29_0, hcz29_1, hcz29_2, hfz29_0, hfz29_1, hfz29_2⟩ := cells3 BK150
  go_wp2_with (first | (refine gl (some 18) Tryd.func108 #[.string a0_0, .string (⟨#[48]⟩ : ByteArray)] ?_; (with_reducible refine (strings_TrimLeft.calls a0_0 (⟨#[48]⟩ : ByteArray) t155 _ (gS HG) A19.out).mono ?_); rintro e w' ⟨rfl, ⟨nd, rfl⟩⟩; refine ⟨_, rfl, ?_⟩; (try (rw [drewN_self wc]; generalize hq_ : World.drewN wc _ = wc; have n0_ : Aside0 (wc.heap[gb150]? = some (.cells #[.string a0_0, .bool false, .bool a0_2] 93 (0, 0))) := ⟨by rw [← hq_]; exact (bK BK150)⟩; have n1_ : Aside0 (wc.heap[gb151]? = some (.cells #[.int .i64 0, .string (⟨#[]⟩ : ByteArray)] 38 (0, 0))) := ⟨by rw [← hq_]; exact (bK BK151)⟩; have n2_ : Aside0 (Below w.heap.size w wc) := ⟨by rw [← hq_]; exact bG⟩; clear BK150 BK151 HB hq_; have BK150 := n0_; have BK151 := n1_; have HB := n2_; clear n0_ n1_ n2_; have hcz29_0 : wc.cell? ⟨gb150, 0, none⟩ = some (.string a0_0) := (blk_cell BK150.out 0).trans rfl; have hcz29_1 : wc.cell? ⟨gb150, 1, none⟩ = some (.bool false) := (blk_cell BK150.out 1).trans rfl; have hcz29_2 : wc.cell? ⟨gb150, 2, none⟩ = some (.bool a0_2) := (blk_cell BK150.out 2).trans rfl; have hfz29_0 := blk_frozen BK150.out 0; have hfz29_1 := blk_frozen BK150.out 1; have hfz29_2 := blk_frozen BK150.out 2)); have hcz30_0 : wc.cell? ⟨gb151, 0, none⟩ = some (.int .i64 0) := (blk_cell BK151.out 0).trans rfl; have hcz30_1 : wc.cell? ⟨gb151, 1, none⟩ = some (.string (⟨#[]⟩ : ByteArray)) := (blk_cell BK151.out 1).trans rfl; have hfz30_0 := blk_frozen BK151.out 0; have hfz30_1 := blk_frozen BK151.out 1))
  refine bodyPost_ret (results_cell_row rfl _ _ gb151 38 #[.int .i64 10, .string t155] (0, 0) _ rfl (bP BK151) Tryd.underlying38 rfl (by kernel_rfl)) rfl ?_
  exact ⟨eA, bG⟩
def words_Split.l0 : Nat → List (S38) → List (S93) → Option ((List (S38)))
 | 0, _, _ => none
 | k + 1, x3, x4 => if (x4.length : Int) = 0 then ((api_Word_73.f k x3).bind fun t160 => (some t160)) else (if 0 ≤ (wrap64 ((x4.length : Int) - 1)) then (if (wrap64 ((x4.length : Int) - 1)) < (x4.length : Int) then ((words_word.f k ((rd_T93 x4 (wrap64 ((x4.length : Int) - 1))).f0) ((rd_T93 x4 (wrap64 ((x4.length : Int) - 1))).f1) ((rd_T93 x4 (wrap64 ((x4.length : Int) - 1))).f2)).bind fun bt162 => (if (wrap64 ((x4.length : Int) - 1)) ≤ (x4.length : Int) then ((some (x4.take ((wrap64 ((x4.length : Int) - 1)) : Int).toNat : List (S93))).bind fun y165 => (if bt162.1 = 6 then (if (x3.length : Int) > 0 then (if 0 ≤ (wrap64 ((x3.length : Int) - 1)) then (if (wrap64 ((x3.length : Int) - 1)) < (x3.length : Int) then (if ((rd_T38 x3 (wrap64 ((x3.length : Int) - 1))).f0) = 6 then (if x3.length < 5864062014805 then (words_Split.l0 k (x3 ++ [(⟨bt162.1, bt162.2⟩ : S38)]) y165) else (none)) else (if ((rd_T38 x3 (wrap64 ((x3.length : Int) - 1))).f0) = 10 then (if x3.length < 5864062014805 then (words_Split.l0 k (x3 ++ [(⟨bt162.1, bt162.2⟩ : S38)]) y165) else (none)) else (words_Split.l0 k x3 y165))) else (none)) else (none)) else (words_Split.l0 k x3 y165)) else (if x3.length < 5864062014805 then (words_Split.l0 k (x3 ++ [(⟨bt162.1, bt162.2⟩ : S38)]) y165) else (none)))) else (none))) else (none)) else (none))
def words_Split.f (k : Nat) (a0 : ByteArray) : Option ((List (S38))) := (chars_Lower.f a0).bind fun t156 => ((words_parts.f k t156).bind fun t157 => (words_Split.l0 k ([] : List (S38)) t157))
theorem words_Split.calls (k : Nat) (a0 : ByteArray) (r : List (S38)) (w : World) (hG : Glob w) (h : words_Split.f k a0 = some r) :
 Calls Tryd.prog 31 #[.string a0] w fun e w' => ∃ v0_ : Value, e = .returned (v0_) ∧ Kd.R k38 38 w' w.heap.size (fun _ => True) v0_ r ∧ Below w.heap.size w w' := by
 have hu93 := Tryd.underlying93
 have hu38 := Tryd.underlying38
 have HG := Aside0.mk hG
 clear hG
 have HB := Aside0.mk (Below.refl w.heap.size w)
 have H : ((chars_Lower.f a0).bind fun t156 => ((words_parts.f k t156).bind fun t157 => (words_Split.l0 k ([] : List (S38)) t157))) = some r := h
 clear h
 have HS2 := Aside0.mk H
 clear H
 go_enter Tryd.func31, Tryd.ntmps31
 go_wp2
 refine wp_scope_loop 0 (by rfl) ?_
 have H := HS2.out
 clear HS2
 replace H := bi H
 obtain ⟨t156, A30, H⟩ := H
 try dsimp only at H
 have A3 := Aside0.mk A30
 clear A30
 replace H := bi H
 obtain ⟨t157, A40, H⟩ := H
 try dsimp only at H
 have A4 := Aside0.mk A40
 clear A40
 have H' := Aside0.mk H
 clear H
 go_wp2_with (first | (refine gl (some 7) Tryd.func72 #[.string a0] ?_; (with_reducible refine (chars_Lower.calls a0 t156 _ (gS HG) A3.out).mono ?_); rintro e w5 ⟨rfl, hb⟩; refine ⟨_, rfl, ?_⟩; replace HB := sB hb; (try clear hb)) | (refine gl (some 8) Tryd.func71 #[.string t156] ?_; (with_reducible refine (words_parts.calls k t156 t157 _ (gS HG) A4.out).mono ?_); rintro e w6 ⟨v158, rfl, ho0, hb⟩; refine ⟨_, rfl, ?_⟩; have HO159 := Aside0.mk (Kd.R_lower ho0 (below_size bE)); replace HB := sB hb; (try clear hb); (try clear ho0)))
 refine wp_label ?_
 rename_i hlb
 refine hlb _ _ ?_
 refine wp_at_label ?_
 refine LoopAt.intro (fun aB_ kq_ a1 w1 => ∃ (u2 u3 u4 u5 u9 u10 u11 u12 u13 u14 u15 u16 u17 u18 u19 u20 u21 u22 u23 u24 u25 u26 u27 u28 u29 u30 u31 u32 u33 u34 u35 u36 u37 u38 u39 u40 u41 u42 u43 u44 u45 u46 u47 u48 u49 u50 u51 u52 u53 u54 u55 u56 u57 u58 : Value), (fun kq v3 v4 w' => ∃ (x3_1 : List (S38)) (x4_1 : List (S93)), Aside0 (words_Split.l0 kq x3_1 x4_1 = some r) ∧ Aside0 (kq ≤ k) ∧ Aside0 (Kd.R k38 38 w' w.heap.size (fun _ => True) v3 x3_1) ∧ Aside0 (Kd.R k93 93 w' w.heap.size (fun _ => True) v4 x4_1) ∧ Aside0 (Below w.heap.size w w')) kq_ u3 u4 w1 ∧ a1 = ((((((((((((((((((((((((((((((((((((((((((((((((((((((aB_.put (some 2) u2).put (some 3) u3).put (some 4) u4).put (some 5) u5).put (some 9) u9).put (some 10) u10).put (some 11) u11).put (some 12) u12).put (some 13) u13).put (some 14) u14).put (some 15) u15).put (some 16) u16).put (some 17) u17).put (some 18) u18).put (some 19) u19).put (some 20) u20).put (some 21) u21).put (some 22) u22).put (some 23) u23).put (some 24) u24).put (some 25) u25).put (some 26) u26).put (some 27) u27).put (some 28) u28).put (some 29) u29).put (some 30) u30).put (some 31) u31).put (some 32) u32).put (some 33) u33).put (some 34) u34).put (some 35) u35).put (some 36) u36).put (some 37) u37).put (some 38) u38).put (some 39) u39).put (some 40) u40).put (some 41) u41).put (some 42) u42).put (some 43) u43).put (some 44) u44).put (some 45) u45).put (some 46) u46).put (some 47) u47).put (some 48) u48).put (some 49) u49).put (some 50) u50).put (some 51) u51).put (some 52) u52).put (some 53) u53).put (some 54) u54).put (some 55) u55).put (some 56) u56).put (some 57) u57).put (some 58) u58)) k ?_ ?_
 ·(repeat apply Exists.intro)
  (try simp only [Act.put, List.setIfInBounds_toArray, List.set_cons_zero, List.set_cons_succ])
  refine ⟨?_, rfl⟩
  exact ⟨(([] : List (S38))), (t157), H', ⟨Nat.le_refl _⟩, ⟨by first | exact Kd.R_nil _ _ _ _ _ | exact Kd.N_nil _ _ _ _ _ | exact Kd.V_nil _ _ _ _ _ | exact Kd.Q_nil _ _ _ _ _ | exact Kd.S_nil _ _ _ _ _⟩, ⟨kR HO159⟩, ⟨bE⟩⟩
 ·intro gk a1 wr hinv
  obtain ⟨u2, u3, u4, u5, u9, u10, u11, u12, u13, u14, u15, u16, u17, u18, u19, u20, u21, u22, u23, u24, u25, u26, u27, u28, u29, u30, u31, u32, u33, u34, u35, u36, u37, u38, u39, u40, u41, u42, u43, u44, u45, u46, u47, u48, u49, u50, u51, u52, u53, u54, u55, u56, u57, u58, hrel, ha⟩ := hinv
  subst ha
  (try simp only [Act.put, List.setIfInBounds_toArray, List.set_cons_zero, List.set_cons_succ])
  intro Js0 Ks0 hJs0 hKs0
  clear H'
  try clear p2
  try clear c3
  obtain ⟨x3_1, x4_1, HA, HK1, HO_3, HO_4, HB⟩ := hrel
  cases gk with
  | zero => exact absurd HA.out (by simp [words_Split.l0])
  | succ k1 =>
   have H := HA.out
   clear HA
   simp only [words_Split.l0] at H
   by_cases c7 : (x4_1.length : Int) = 0
   ·rw [if_pos c7] at H
    obtain ⟨c7b0, c7b1⟩ := eqT c7
    clear c7
    replace H := bi H
    obtain ⟨t160, A80, H⟩ := H
    try dsimp only at H
    have A8 := Aside0.mk A80
    clear A80
    obtain rfl := Option.some.inj H
    obtain ⟨Ao9, co9, eo9⟩ := Kd.R_slice HO_4.out
    subst eo9
    obtain ⟨Ao10, co10, eo10⟩ := Kd.R_slice HO_3.out
    subst eo10
    go_wp2_with (first | (refine gl (some 13) Tryd.func73 #[.slice Ao10 x3_1.length co10] ?_; (with_reducible refine (api_Word_73.calls k1 (fun k_ => some k_ = (.slice Ao10 x3_1.length co10 : Value).ownBlock) (.slice Ao10 x3_1.length co10) x3_1 t160 w _ ?side1 ?side2 ?side3 A8.out).mono ?_); (case side1 => repeat (first | (with_reducible first | exact HB.out | apply below_alloc | apply pw_below_drewN | apply below_drew1) | exact HB.out)); (case side2 => exact Kd.R_tight rfl HO_3.out); (case side3 => exact HG.out); rintro e w11 ⟨rfl, hy0, hb, hkp⟩; refine ⟨_, rfl, ?_⟩; replace HO_4 := Aside0.mk (Kd.R_mono (ok' := fun k_ => True) (Kd.R_keptB ((Kd.R_apart' HO_4.out (Kd.R_typed HO_3.out) (by decide))) hkp (fun k_ hk_ hs_ => (hk_.2) hs_)) (fun k_ hk_ => trivial)); replace HO_3 := Aside0.mk (Kd.R_reok rfl hy0 (fun k_ e_ => HO_3.out.1 k_ e_)); replace HB := Aside0.mk (hb); (try clear hb); (try clear hkp); (try clear hy0)))
    (try simp only [Exit.inBlock, Exit.then, jump_ret])
    go_ret
    exact ⟨_, by first | rfl | (simp [errW_none, errW_some] <;> rfl) | (simp [*, errW_none, errW_some] <;> rfl), by (with_reducible repeat (first | apply Kd.R_alloc | apply Kd.R_drewN | apply Kd.R_drew)); exact HO_3.out, bE⟩
   rw [if_neg c7] at H
   obtain ⟨c7b0, c7b1⟩ := eqF c7
   have c7b2 : ¬ (x4_1 = []) := fun h_ => c7 (by rw [h_]; rfl)
   obtain ⟨ji12, hji12⟩ : ∃ j_ : Int, (wrap64 ((x4_1.length : Int) - 1)) = j_ := ⟨_, rfl⟩
   rw [hji12] at H
   have hji12w : (IntKind.i64.wrap ((x4_1.length : Int) - 1)) = ji12 := (i64_w _).trans hji12
   obtain ⟨c13, H⟩ := gp H
   have c13b0 := dT c13
   clear c13
   obtain ⟨c14, H⟩ := gp H
   have c14b0 := dT c14
   clear c14
   replace H := bi H
   obtain ⟨⟨t162, t163⟩, A150, H⟩ := H
   try dsimp only at H
   have A15 := Aside0.mk A150
   clear A150
   obtain ⟨c16, H⟩ := gp H
   have c16b0 := eq_true c16
   have c16b1 := dT c16
   clear c16
   obtain ⟨y165, hy165⟩ : ∃ y_ : List (S93), y_ = (x4_1.take ((ji12) : Int).toNat) := ⟨_, rfl⟩
   replace H : (if t162 = 6 then (if (x3_1.length : Int) > 0 then (if 0 ≤ (wrap64 ((x3_1.length : Int) - 1)) then (if (wrap64 ((x3_1.length : Int) - 1)) < (x3_1.length : Int) then (if ((rd_T38 x3_1 (wrap64 ((x3_1.length : Int) - 1))).f0) = 6 then (if x3_1.length < 5864062014805 then (words_Split.l0 k1 (x3_1 ++ [(⟨t162, t163⟩ : S38)]) y165) else (none)) else (if ((rd_T38 x3_1 (wrap64 ((x3_1.length : Int) - 1))).f0) = 10 then (if x3_1.length < 5864062014805 then (words_Split.l0 k1 (x3_1 ++ [(⟨t162, t163⟩ : S38)]) y165) else (none)) else (words_Split.l0 k1 x3_1 y165))) else (none)) else (none)) else (words_Split.l0 k1 x3_1 y165)) else (if x3_1.length < 5864062014805 then (words_Split.l0 k1 (x3_1 ++ [(⟨t162, t163⟩ : S38)]) y165) else (none))) = some r := by first | (rw [hy165]; with_reducible exact H) | (have H2_ := (Option.bind_some _ _).symm.trans H; rw [hy165]; with_reducible exact H2_) | (have H2_ := (Option.bind_some _ _).symm.trans H; with_reducible exact H2_) | with_reducible exact H | (rw [hy165]; exact H) | exact H
   have Ny165 := Aside0.mk hy165
   clear hy165
   by_cases c17 : t162 = 6
   rotate_left
   ·rw [if_neg c17] at H
    obtain ⟨c17b0, c17b1⟩ := eqF c17
    obtain ⟨c60, H⟩ := gp H
    have LMc60 := Aside0.mk c60
    clear c60
    obtain ⟨y176, hy176⟩ : ∃ y_ : List (S38), y_ = (x3_1 ++ [(⟨t162, t163⟩ : S38)]) := ⟨_, rfl⟩
    replace H : (words_Split.l0 k1 y176 y165) = some r := by first | (rw [hy176]; with_reducible exact H) | (have H2_ := (Option.bind_some _ _).symm.trans H; rw [hy176]; with_reducible exact H2_) | (have H2_ := (Option.bind_some _ _).symm.trans H; with_reducible exact H2_) | with_reducible exact H | (rw [hy176]; exact H) | exact H
    have Ny176 := Aside0.mk hy176
    clear hy176
    have H' := Aside0.mk H
    clear H
    obtain ⟨Ao61, co61, eo61⟩ := Kd.R_slice HO_4.out
    subst eo61
    have p161 : 0 ≤ ((ji12) : Int) := dA
    have q161 : (ji12) < (x4_1.length : Int) := dA
    obtain ⟨ad161, e161, hx161_0, hx161_1, hx161_2⟩ := at_T93 (Kd.R_reads' HO_4.out).2.2 (ji12) p161 q161
    cases e161
    replace p161 := eq_true p161
    replace q161 := eq_true q161
    go_wp2_with (first | ((with_reducible refine gate_callee (f := 74) rfl ?_); refine goesL_ (some 21) rfl rfl Tryd.func74 (by kernel_rfl) rfl #[.agg #[.string ((rd_T93 x4_1 (ji12)).f0), .bool ((rd_T93 x4_1 (ji12)).f1), .bool ((rd_T93 x4_1 (ji12)).f2)]] rfl (by (try simp only [List.map_toArray, List.map_cons, List.map_nil]); first | done | (simp only [hji12]; rfl) | rfl | (simp only [List.length_drop, List.length_take]; rfl)) ?_; (with_reducible refine (words_word.calls k1 ((rd_T93 x4_1 (ji12)).f0) ((rd_T93 x4_1 (ji12)).f1) ((rd_T93 x4_1 (ji12)).f2) t162 t163 _ (gS HG) A15.out).mono ?_); rintro e w62 ⟨rfl, hb⟩; refine ⟨_, rfl, ?_⟩; replace HO_3 := rB HO_3 hb; replace HO_4 := rB HO_4 hb; replace HB := sB hb; (try clear hb)) | ((with_reducible refine gate_dst (N := 5) rfl ?_); (try (refine gate_guard (by rfl) ?_; dsimp only)); refine be 5 #[.int .i64 0, .string (⟨#[]⟩ : ByteArray)] 38 ?_; intro gb164 hg w63 hbox hb; replace HO_3 := Aside0.mk (Kd.R_below (Kd.R_elderB (kR HO_3) gb164 (Nat.le_of_eq hg.symm)) hb); replace HO_4 := rB HO_4 hb; have BK164 := Aside0.mk (hbox); have GW164 := gW hg; have GE164 := gW hg; replace HB := sB hb; clear hb hbox hg; have hcz64_0 : w63.cell? ⟨gb164, 0, none⟩ = some (.int .i64 0) := (blk_cell BK164.out 0).trans rfl; have hcz64_1 : w63.cell? ⟨gb164, 1, none⟩ = some (.string (⟨#[]⟩ : ByteArray)) := (blk_cell BK164.out 1).trans rfl; have hfz64_0 := blk_frozen BK164.out 0; have hfz64_1 := blk_frozen BK164.out 1) | ((with_reducible refine gate_store (t := 38) (p := 5) rfl ?_); refine store_event (t := 38) (p := 5) (v := ?vo_w65) (w1 := ((w63.setCell ⟨gb164, 0, none⟩ (.int .i64 t162)).setCell ⟨gb164, 1, none⟩ (.string t163))) ?hg ?ho ?hn ?hr ?_; (case ho => rfl); (case hg => rfl); (case hn => rfl); (case hr => first | (go_simp; done) | (go_simp; rfl)); intro w65 hw; replace HO_3 : Aside0 (Kd.R k38 38 w65 w.heap.size (fun k_ => k_ ≠ gb164) u3 x3_1) := ⟨(by rw [hw]; exact (by (with_reducible repeat (first | apply Kd.R_alloc | apply Kd.R_drewN | apply Kd.R_drew)); exact Kd.R_mono (Kd.R_far (p := ⟨gb164, 1, none⟩) (Kd.R_far (p := ⟨gb164, 0, none⟩) (Kd.R_mono HO_3.out (fun k_ hk => (⟨hk, hk.2⟩ : _ ∧ k_ ≠ gb164))) (fun _ hk => hk.2) (.int .i64 t162)) (fun _ hk => hk.2) (.string t163)) (fun _ hk => hk.1.2)))⟩; replace HO_4 : Aside0 (Kd.R k93 93 w65 w.heap.size (fun _ => True) (.slice (some ad161) x4_1.length co61) x4_1) := ⟨(by rw [hw]; exact (by (with_reducible repeat (first | apply Kd.R_alloc | apply Kd.R_drewN | apply Kd.R_drew)); exact Kd.R_mono (Kd.R_far (p := ⟨gb164, 1, none⟩) (Kd.R_far (p := ⟨gb164, 0, none⟩) (Kd.R_types HO_4.out BK164.out (by decide)) (fun _ hk => hk.2) (.int .i64 t162)) (fun _ hk => hk.2) (.string t163)) (fun _ hk => trivial)))⟩; replace BK164 : Aside0 (w65.heap[gb164]? = some (.cells #[.int .i64 t162, .string t163] 38 (0, 0))) := ⟨(by rw [hw]; exact (bP BK164))⟩; replace HB : Aside0 (Below w.heap.size w w65) := ⟨(by rw [hw]; exact bG)⟩; clear hw; have q66 : ((ji12) : Int) ≤ ((x4_1.length : Int) : Int) := dA; obtain ⟨i066, hi066, _, hsz66, _⟩ := info_parts info93; have hcut66 := cut_to (P := Tryd.prog) 87 93 .i64 Tryd.underlying87 hi066 (some ad161) x4_1.length co61 (ji12) (dA) q66 (Kd.R_reads' HO_4.out).2.1; have hr66 := Kd.R_take (m := ((ji12) : Int).toNat) HO_4.out (by omega); have hy66 : y165.length = ((ji12) : Int).toNat := (by rw [Ny165.out, List.length_take]; omega); rw [← Ny165.out] at hr66; rw [← hy66] at hr66 hcut66; clear hy66 hi066 hsz66 HO_4; have HO167 := Aside0.mk hr66; clear hr66; replace q66 := eq_true q66; have hcz67_0 : w65.cell? ⟨gb164, 0, none⟩ = some (.int .i64 t162) := (blk_cell BK164.out 0).trans rfl; have hcz67_1 : w65.cell? ⟨gb164, 1, none⟩ = some (.string t163) := (blk_cell BK164.out 1).trans rfl; have hfz67_0 := blk_frozen BK164.out 0; have hfz67_1 := blk_frozen BK164.out 1) | ((with_reducible refine gate_builtin (b := .append) (xs := #[.tmp 55, .tmp 57]) rfl ?_); (try (refine gate_guard (by rfl) ?_; dsimp only)); at_builtin; refine Kd.R_append k38 (w0 := w) w.heap.size rfl (.tmp 55) (.tmp 57) 39 38 (.agg #[(.int .i64 0), (.string ⟨#[]⟩)]) 24 rfl Tryd.underlying39 info38 rfl (by decide) (by omega) u3 x3_1 (⟨t162, t163⟩ : S38) [.int .i64 t162, .string t163] (fun k_ => k_ ≠ gb164) (fun _ => False) rfl rfl ?aP (fun _ hk => hk.elim) ?aF ?aO ?aB ?aS ?aL ?_; (case aP => exact k38_mkM _ _ _ (⟨t162, t163⟩ : S38)); (case aB => exact bG); (case aF => exact (fun k_ hk => Kd.freshB (g := gb164) (o := .cells #[.int .i64 t162, .string t163] 38 (0, 0)) (bK BK164) k_ hk)); (case aO => exact (kR HO_3)); (case aS => exact (below_size bG)); (case aL => have := LMc60.out; omega); intro v177 w68 ho hb hg hat; rw [← Ny176.out] at ho; replace HO167 := Aside0.mk (Kd.R_over' (kR HO167) (Kd.R_typed (kR HO_3)) (by decide) hg); replace BK164 := Aside0.mk (blk_grown (g := gb164) (o := .cells #[.int .i64 t162, .string t163] 38 (0, 0)) (bK BK164) hg (Kd.R_away HO_3.out (fun _ hk => hk))); replace HB := Aside0.mk (hb); have HO178 := Aside0.mk (ho); clear HO_3; clear ho hb hg hat))
    refine wp_goto (And.intro rfl ?_)
    refine hKs0 _ _ ?_
    go_roundg k1
    case measure => have := HK1.out; omega
    case rel => exact ⟨(y176), (y165), H', ⟨by have := HK1.out; omega⟩, ⟨by (with_reducible repeat (first | apply Kd.R_alloc | apply Kd.R_drewN | apply Kd.R_drew)); exact Kd.R_mono HO178.out (fun _ hk => trivial)⟩, ⟨kR HO167⟩, ⟨bG⟩⟩
   rw [if_pos c17] at H
   obtain ⟨c17b0, c17b1⟩ := eqT c17
   clear c17
   by_cases c18 : (x3_1.length : Int) > 0
   rotate_left
   ·rw [if_neg c18] at H
    have c18b0 := dF c18
    have c18b1 : decide (0 < x3_1.length) = false := decide_eq_false (by omega)
    clear c18
    have H' := Aside0.mk H
    clear H
    obtain ⟨Ao52, co52, eo52⟩ := Kd.R_slice HO_4.out
    subst eo52
    have p161 : 0 ≤ ((ji12) : Int) := dA
    have q161 : (ji12) < (x4_1.length : Int) := dA
    obtain ⟨ad161, e161, hx161_0, hx161_1, hx161_2⟩ := at_T93 (Kd.R_reads' HO_4.out).2.2 (ji12) p161 q161
    cases e161
    replace p161 := eq_true p161
    replace q161 := eq_true q161
    go_wp2_with (first | ((with_reducible refine gate_callee (f := 74) rfl ?_); refine goesL_ (some 21) rfl rfl Tryd.func74 (by kernel_rfl) rfl #[.agg #[.string ((rd_T93 x4_1 (ji12)).f0), .bool ((rd_T93 x4_1 (ji12)).f1), .bool ((rd_T93 x4_1 (ji12)).f2)]] rfl (by (try simp only [List.map_toArray, List.map_cons, List.map_nil]); first | done | (simp only [hji12]; rfl) | rfl | (simp only [List.length_drop, List.length_take]; rfl)) ?_; (with_reducible refine (words_word.calls k1 ((rd_T93 x4_1 (ji12)).f0) ((rd_T93 x4_1 (ji12)).f1) ((rd_T93 x4_1 (ji12)).f2) t162 t163 _ (gS HG) A15.out).mono ?_); rintro e w53 ⟨rfl, hb⟩; refine ⟨_, rfl, ?_⟩; replace HO_3 := rB HO_3 hb; replace HO_4 := rB HO_4 hb; replace HB := sB hb; (try clear hb)) | ((with_reducible refine gate_dst (N := 5) rfl ?_); (try (refine gate_guard (by rfl) ?_; dsimp only)); refine be 5 #[.int .i64 0, .string (⟨#[]⟩ : ByteArray)] 38 ?_; intro gb164 hg w54 hbox hb; replace HO_3 := Aside0.mk (Kd.R_below (Kd.R_elderB (kR HO_3) gb164 (Nat.le_of_eq hg.symm)) hb); replace HO_4 := rB HO_4 hb; have BK164 := Aside0.mk (hbox); have GW164 := gW hg; have GE164 := gW hg; replace HB := sB hb; clear hb hbox hg; have hcz55_0 : w54.cell? ⟨gb164, 0, none⟩ = some (.int .i64 0) := (blk_cell BK164.out 0).trans rfl; have hcz55_1 : w54.cell? ⟨gb164, 1, none⟩ = some (.string (⟨#[]⟩ : ByteArray)) := (blk_cell BK164.out 1).trans rfl; have hfz55_0 := blk_frozen BK164.out 0; have hfz55_1 := blk_frozen BK164.out 1) | ((with_reducible refine gate_store (t := 38) (p := 5) rfl ?_); refine store_event (t := 38) (p := 5) (v := ?vo_w56) (w1 := ((w54.setCell ⟨gb164, 0, none⟩ (.int .i64 t162)).setCell ⟨gb164, 1, none⟩ (.string t163))) ?hg ?ho ?hn ?hr ?_; (case ho => rfl); (case hg => rfl); (case hn => rfl); (case hr => first | (go_simp; done) | (go_simp; rfl)); intro w56 hw; replace HO_3 : Aside0 (Kd.R k38 38 w56 w.heap.size (fun k_ => k_ ≠ gb164) u3 x3_1) := ⟨(by rw [hw]; exact (by (with_reducible repeat (first | apply Kd.R_alloc | apply Kd.R_drewN | apply Kd.R_drew)); exact Kd.R_mono (Kd.R_far (p := ⟨gb164, 1, none⟩) (Kd.R_far (p := ⟨gb164, 0, none⟩) (Kd.R_mono HO_3.out (fun k_ hk => (⟨hk, hk.2⟩ : _ ∧ k_ ≠ gb164))) (fun _ hk => hk.2) (.int .i64 t162)) (fun _ hk => hk.2) (.string t163)) (fun _ hk => hk.1.2)))⟩; replace HO_4 : Aside0 (Kd.R k93 93 w56 w.heap.size (fun _ => True) (.slice (some ad161) x4_1.length co52) x4_1) := ⟨(by rw [hw]; exact (by (with_reducible repeat (first | apply Kd.R_alloc | apply Kd.R_drewN | apply Kd.R_drew)); exact Kd.R_mono (Kd.R_far (p := ⟨gb164, 1, none⟩) (Kd.R_far (p := ⟨gb164, 0, none⟩) (Kd.R_types HO_4.out BK164.out (by decide)) (fun _ hk => hk.2) (.int .i64 t162)) (fun _ hk => hk.2) (.string t163)) (fun _ hk => trivial)))⟩; replace BK164 : Aside0 (w56.heap[gb164]? = some (.cells #[.int .i64 t162, .string t163] 38 (0, 0))) := ⟨(by rw [hw]; exact (bP BK164))⟩; replace HB : Aside0 (Below w.heap.size w w56) := ⟨(by rw [hw]; exact bG)⟩; clear hw; have q57 : ((ji12) : Int) ≤ ((x4_1.length : Int) : Int) := dA; obtain ⟨i057, hi057, _, hsz57, _⟩ := info_parts info93; have hcut57 := cut_to (P := Tryd.prog) 87 93 .i64 Tryd.underlying87 hi057 (some ad161) x4_1.length co52 (ji12) (dA) q57 (Kd.R_reads' HO_4.out).2.1; have hr57 := Kd.R_take (m := ((ji12) : Int).toNat) HO_4.out (by omega); have hy57 : y165.length = ((ji12) : Int).toNat := (by rw [Ny165.out, List.length_take]; omega); rw [← Ny165.out] at hr57; rw [← hy57] at hr57 hcut57; clear hy57 hi057 hsz57 HO_4; have HO167 := Aside0.mk hr57; clear hr57; replace q57 := eq_true q57; have hcz58_0 : w56.cell? ⟨gb164, 0, none⟩ = some (.int .i64 t162) := (blk_cell BK164.out 0).trans rfl; have hcz58_1 : w56.cell? ⟨gb164, 1, none⟩ = some (.string t163) := (blk_cell BK164.out 1).trans rfl; have hfz58_0 := blk_frozen BK164.out 0; have hfz58_1 := blk_frozen BK164.out 1; obtain ⟨Ao59, co59, eo59⟩ := Kd.R_slice HO_3.out; subst eo59))
    refine wp_goto (And.intro rfl ?_)
    refine hKs0 _ _ ?_
    go_roundg k1
    case measure => have := HK1.out; omega
    case rel => exact ⟨(x3_1), (y165), H', ⟨by have := HK1.out; omega⟩, ⟨by (with_reducible repeat (first | apply Kd.R_alloc | apply Kd.R_drewN | apply Kd.R_drew)); exact Kd.R_mono HO_3.out (fun _ hk => trivial)⟩, ⟨kR HO167⟩, ⟨bG⟩⟩
   rw [if_pos c18] at H
   have c18b0 := dT c18
   have c18b1 : decide (0 < x3_1.length) = true := decide_eq_true (by omega)
   clear c18
   obtain ⟨ji19, hji19⟩ : ∃ j_ : Int, (wrap64 ((x3_1.length : Int) - 1)) = j_ := ⟨_, rfl⟩
   rw [hji19] at H
   (try rw [hji19] at A15)
   have hji19w : (IntKind.i64.wrap ((x3_1.length : Int) - 1)) = ji19 := (i64_w _).trans hji19
   obtain ⟨c20, H⟩ := gp H
   have c20b0 := dT c20
   clear c20
   obtain ⟨c21, H⟩ := gp H
   have c21b0 := dT c21
   clear c21
   by_cases c22 : ((rd_T38 x3_1 (ji19)).f0) = 6
   ·rw [if_pos c22] at H
    obtain ⟨c22b0, c22b1⟩ := eqT c22
    clear c22
    obtain ⟨c23, H⟩ := gp H
    have LMc23 := Aside0.mk c23
    clear c23
    obtain ⟨y169, hy169⟩ : ∃ y_ : List (S38), y_ = (x3_1 ++ [(⟨t162, t163⟩ : S38)]) := ⟨_, rfl⟩
    replace H : (words_Split.l0 k1 y169 y165) = some r := by first | (rw [hy169]; with_reducible exact H) | (have H2_ := (Option.bind_some _ _).symm.trans H; rw [hy169]; with_reducible exact H2_) | (have H2_ := (Option.bind_some _ _).symm.trans H; with_reducible exact H2_) | with_reducible exact H | (rw [hy169]; exact H) | exact H
    have Ny169 := Aside0.mk hy169
    clear hy169
    have H' := Aside0.mk H
    clear H
    obtain ⟨Ao24, co24, eo24⟩ := Kd.R_slice HO_4.out
    subst eo24
    have p161 : 0 ≤ ((ji12) : Int) := dA
    have q161 : (ji12) < (x4_1.length : Int) := dA
    obtain ⟨ad161, e161, hx161_0, hx161_1, hx161_2⟩ := at_T93 (Kd.R_reads' HO_4.out).2.2 (ji12) p161 q161
    cases e161
    replace p161 := eq_true p161
    replace q161 := eq_true q161
    go_wp2_with (first | ((with_reducible refine gate_callee (f := 74) rfl ?_); refine goesL_ (some 21) rfl rfl Tryd.func74 (by kernel_rfl) rfl #[.agg #[.string ((rd_T93 x4_1 (ji12)).f0), .bool ((rd_T93 x4_1 (ji12)).f1), .bool ((rd_T93 x4_1 (ji12)).f2)]] rfl (by (try simp only [List.map_toArray, List.map_cons, List.map_nil]); first | done | (simp only [hji12]; rfl) | rfl | (simp only [List.length_drop, List.length_take]; rfl)) ?_; (with_reducible refine (words_word.calls k1 ((rd_T93 x4_1 (ji12)).f0) ((rd_T93 x4_1 (ji12)).f1) ((rd_T93 x4_1 (ji12)).f2) t162 t163 _ (gS HG) A15.out).mono ?_); rintro e w25 ⟨rfl, hb⟩; refine ⟨_, rfl, ?_⟩; replace HO_3 := rB HO_3 hb; replace HO_4 := rB HO_4 hb; replace HB := sB hb; (try clear hb)) | ((with_reducible refine gate_dst (N := 5) rfl ?_); (try (refine gate_guard (by rfl) ?_; dsimp only)); refine be 5 #[.int .i64 0, .string (⟨#[]⟩ : ByteArray)] 38 ?_; intro gb164 hg w26 hbox hb; replace HO_3 := Aside0.mk (Kd.R_below (Kd.R_elderB (kR HO_3) gb164 (Nat.le_of_eq hg.symm)) hb); replace HO_4 := rB HO_4 hb; have BK164 := Aside0.mk (hbox); have GW164 := gW hg; have GE164 := gW hg; replace HB := sB hb; clear hb hbox hg; have hcz27_0 : w26.cell? ⟨gb164, 0, none⟩ = some (.int .i64 0) := (blk_cell BK164.out 0).trans rfl; have hcz27_1 : w26.cell? ⟨gb164, 1, none⟩ = some (.string (⟨#[]⟩ : ByteArray)) := (blk_cell BK164.out 1).trans rfl; have hfz27_0 := blk_frozen BK164.out 0; have hfz27_1 := blk_frozen BK164.out 1) | ((with_reducible refine gate_store (t := 38) (p := 5) rfl ?_); refine store_event (t := 38) (p := 5) (v := ?vo_w28) (w1 := ((w26.setCell ⟨gb164, 0, none⟩ (.int .i64 t162)).setCell ⟨gb164, 1, none⟩ (.string t163))) ?hg ?ho ?hn ?hr ?_; (case ho => rfl); (case hg => rfl); (case hn => rfl); (case hr => first | (go_simp; done) | (go_simp; rfl)); intro w28 hw; replace HO_3 : Aside0 (Kd.R k38 38 w28 w.heap.size (fun k_ => k_ ≠ gb164) u3 x3_1) := ⟨(by rw [hw]; exact (by (with_reducible repeat (first | apply Kd.R_alloc | apply Kd.R_drewN | apply Kd.R_drew)); exact Kd.R_mono (Kd.R_far (p := ⟨gb164, 1, none⟩) (Kd.R_far (p := ⟨gb164, 0, none⟩) (Kd.R_mono HO_3.out (fun k_ hk => (⟨hk, hk.2⟩ : _ ∧ k_ ≠ gb164))) (fun _ hk => hk.2) (.int .i64 t162)) (fun _ hk => hk.2) (.string t163)) (fun _ hk => hk.1.2)))⟩; replace HO_4 : Aside0 (Kd.R k93 93 w28 w.heap.size (fun _ => True) (.slice (some ad161) x4_1.length co24) x4_1) := ⟨(by rw [hw]; exact (by (with_reducible repeat (first | apply Kd.R_alloc | apply Kd.R_drewN | apply Kd.R_drew)); exact Kd.R_mono (Kd.R_far (p := ⟨gb164, 1, none⟩) (Kd.R_far (p := ⟨gb164, 0, none⟩) (Kd.R_types HO_4.out BK164.out (by decide)) (fun _ hk => hk.2) (.int .i64 t162)) (fun _ hk => hk.2) (.string t163)) (fun _ hk => trivial)))⟩; replace BK164 : Aside0 (w28.heap[gb164]? = some (.cells #[.int .i64 t162, .string t163] 38 (0, 0))) := ⟨(by rw [hw]; exact (bP BK164))⟩; replace HB : Aside0 (Below w.heap.size w w28) := ⟨(by rw [hw]; exact bG)⟩; clear hw; have q29 : ((ji12) : Int) ≤ ((x4_1.length : Int) : Int) := dA; obtain ⟨i029, hi029, _, hsz29, _⟩ := info_parts info93; have hcut29 := cut_to (P := Tryd.prog) 87 93 .i64 Tryd.underlying87 hi029 (some ad161) x4_1.length co24 (ji12) (dA) q29 (Kd.R_reads' HO_4.out).2.1; have hr29 := Kd.R_take (m := ((ji12) : Int).toNat) HO_4.out (by omega); have hy29 : y165.length = ((ji12) : Int).toNat := (by rw [Ny165.out, List.length_take]; omega); rw [← Ny165.out] at hr29; rw [← hy29] at hr29 hcut29; clear hy29 hi029 hsz29 HO_4; have HO167 := Aside0.mk hr29; clear hr29; replace q29 := eq_true q29; have hcz30_0 : w28.cell? ⟨gb164, 0, none⟩ = some (.int .i64 t162) := (blk_cell BK164.out 0).trans rfl; have hcz30_1 : w28.cell? ⟨gb164, 1, none⟩ = some (.string t163) := (blk_cell BK164.out 1).trans rfl; have hfz30_0 := blk_frozen BK164.out 0; have hfz30_1 := blk_frozen BK164.out 1; obtain ⟨Ao31, co31, eo31⟩ := Kd.R_slice HO_3.out; subst eo31; have p168 : 0 ≤ ((ji19) : Int) := dA; have q168 : (ji19) < (x3_1.length : Int) := dA; obtain ⟨ad168, e168, hx168_0, hx168_1⟩ := at_T38 (Kd.R_reads' HO_3.out).2.2 (ji19) p168 q168; cases e168; replace p168 := eq_true p168; replace q168 := eq_true q168) | ((with_reducible refine gate_builtin (b := .append) (xs := #[.tmp 55, .tmp 57]) rfl ?_); (try (refine gate_guard (by rfl) ?_; dsimp only)); at_builtin; refine Kd.R_append k38 (w0 := w) w.heap.size rfl (.tmp 55) (.tmp 57) 39 38 (.agg #[(.int .i64 0), (.string ⟨#[]⟩)]) 24 rfl Tryd.underlying39 info38 rfl (by decide) (by omega) (.slice (some ad168) x3_1.length co31) x3_1 (⟨t162, t163⟩ : S38) [.int .i64 t162, .string t163] (fun k_ => k_ ≠ gb164) (fun _ => False) rfl rfl ?aP (fun _ hk => hk.elim) ?aF ?aO ?aB ?aS ?aL ?_; (case aP => exact k38_mkM _ _ _ (⟨t162, t163⟩ : S38)); (case aB => exact bG); (case aF => exact (fun k_ hk => Kd.freshB (g := gb164) (o := .cells #[.int .i64 t162, .string t163] 38 (0, 0)) (bK BK164) k_ hk)); (case aO => exact (kR HO_3)); (case aS => exact (below_size bG)); (case aL => have := LMc23.out; omega); intro v170 w32 ho hb hg hat; rw [← Ny169.out] at ho; replace HO167 := Aside0.mk (Kd.R_over' (kR HO167) (Kd.R_typed (kR HO_3)) (by decide) hg); replace BK164 := Aside0.mk (blk_grown (g := gb164) (o := .cells #[.int .i64 t162, .string t163] 38 (0, 0)) (bK BK164) hg (Kd.R_away HO_3.out (fun _ hk => hk))); replace HB := Aside0.mk (hb); have HO171 := Aside0.mk (ho); clear HO_3; clear ho hb hg hat))
    refine wp_goto (And.intro rfl ?_)
    refine hKs0 _ _ ?_
    go_roundg k1
    case measure => have := HK1.out; omega
    case rel => exact ⟨(y169), (y165), H', ⟨by have := HK1.out; omega⟩, ⟨by (with_reducible repeat (first | apply Kd.R_alloc | apply Kd.R_drewN | apply Kd.R_drew)); exact Kd.R_mono HO171.out (fun _ hk => trivial)⟩, ⟨kR HO167⟩, ⟨bG⟩⟩
   rw [if_neg c22] at H
   obtain ⟨c22b0, c22b1⟩ := eqF c22
   by_cases c33 : ((rd_T38 x3_1 (ji19)).f0) = 10
   rotate_left
   ·rw [if_neg c33] at H
    obtain ⟨c33b0, c33b1⟩ := eqF c33
    have H' := Aside0.mk H
    clear H
    obtain ⟨Ao44, co44, eo44⟩ := Kd.R_slice HO_4.out
    subst eo44
    have p161 : 0 ≤ ((ji12) : Int) := dA
    have q161 : (ji12) < (x4_1.length : Int) := dA
    obtain ⟨ad161, e161, hx161_0, hx161_1, hx161_2⟩ := at_T93 (Kd.R_reads' HO_4.out).2.2 (ji12) p161 q161
    cases e161
    replace p161 := eq_true p161
    replace q161 := eq_true q161
    go_wp2_with (first | ((with_reducible refine gate_callee (f := 74) rfl ?_); refine goesL_ (some 21) rfl rfl Tryd.func74 (by kernel_rfl) rfl #[.agg #[.string ((rd_T93 x4_1 (ji12)).f0), .bool ((rd_T93 x4_1 (ji12)).f1), .bool ((rd_T93 x4_1 (ji12)).f2)]] rfl (by (try simp only [List.map_toArray, List.map_cons, List.map_nil]); first | done | (simp only [hji12]; rfl) | rfl | (simp only [List.length_drop, List.length_take]; rfl)) ?_; (with_reducible refine (words_word.calls k1 ((rd_T93 x4_1 (ji12)).f0) ((rd_T93 x4_1 (ji12)).f1) ((rd_T93 x4_1 (ji12)).f2) t162 t163 _ (gS HG) A15.out).mono ?_); rintro e w45 ⟨rfl, hb⟩; refine ⟨_, rfl, ?_⟩; replace HO_3 := rB HO_3 hb; replace HO_4 := rB HO_4 hb; replace HB := sB hb; (try clear hb)) | ((with_reducible refine gate_dst (N := 5) rfl ?_); (try (refine gate_guard (by rfl) ?_; dsimp only)); refine be 5 #[.int .i64 0, .string (⟨#[]⟩ : ByteArray)] 38 ?_; intro gb164 hg w46 hbox hb; replace HO_3 := Aside0.mk (Kd.R_below (Kd.R_elderB (kR HO_3) gb164 (Nat.le_of_eq hg.symm)) hb); replace HO_4 := rB HO_4 hb; have BK164 := Aside0.mk (hbox); have GW164 := gW hg; have GE164 := gW hg; replace HB := sB hb; clear hb hbox hg; have hcz47_0 : w46.cell? ⟨gb164, 0, none⟩ = some (.int .i64 0) := (blk_cell BK164.out 0).trans rfl; have hcz47_1 : w46.cell? ⟨gb164, 1, none⟩ = some (.string (⟨#[]⟩ : ByteArray)) := (blk_cell BK164.out 1).trans rfl; have hfz47_0 := blk_frozen BK164.out 0; have hfz47_1 := blk_frozen BK164.out 1) | ((with_reducible refine gate_store (t := 38) (p := 5) rfl ?_); refine store_event (t := 38) (p := 5) (v := ?vo_w48) (w1 := ((w46.setCell ⟨gb164, 0, none⟩ (.int .i64 t162)).setCell ⟨gb164, 1, none⟩ (.string t163))) ?hg ?ho ?hn ?hr ?_; (case ho => rfl); (case hg => rfl); (case hn => rfl); (case hr => first | (go_simp; done) | (go_simp; rfl)); intro w48 hw; replace HO_3 : Aside0 (Kd.R k38 38 w48 w.heap.size (fun k_ => k_ ≠ gb164) u3 x3_1) := ⟨(by rw [hw]; exact (by (with_reducible repeat (first | apply Kd.R_alloc | apply Kd.R_drewN | apply Kd.R_drew)); exact Kd.R_mono (Kd.R_far (p := ⟨gb164, 1, none⟩) (Kd.R_far (p := ⟨gb164, 0, none⟩) (Kd.R_mono HO_3.out (fun k_ hk => (⟨hk, hk.2⟩ : _ ∧ k_ ≠ gb164))) (fun _ hk => hk.2) (.int .i64 t162)) (fun _ hk => hk.2) (.string t163)) (fun _ hk => hk.1.2)))⟩; replace HO_4 : Aside0 (Kd.R k93 93 w48 w.heap.size (fun _ => True) (.slice (some ad161) x4_1.length co44) x4_1) := ⟨(by rw [hw]; exact (by (with_reducible repeat (first | apply Kd.R_alloc | apply Kd.R_drewN | apply Kd.R_drew)); exact Kd.R_mono (Kd.R_far (p := ⟨gb164, 1, none⟩) (Kd.R_far (p := ⟨gb164, 0, none⟩) (Kd.R_types HO_4.out BK164.out (by decide)) (fun _ hk => hk.2) (.int .i64 t162)) (fun _ hk => hk.2) (.string t163)) (fun _ hk => trivial)))⟩; replace BK164 : Aside0 (w48.heap[gb164]? = some (.cells #[.int .i64 t162, .string t163] 38 (0, 0))) := ⟨(by rw [hw]; exact (bP BK164))⟩; replace HB : Aside0 (Below w.heap.size w w48) := ⟨(by rw [hw]; exact bG)⟩; clear hw; have q49 : ((ji12) : Int) ≤ ((x4_1.length : Int) : Int) := dA; obtain ⟨i049, hi049, _, hsz49, _⟩ := info_parts info93; have hcut49 := cut_to (P := Tryd.prog) 87 93 .i64 Tryd.underlying87 hi049 (some ad161) x4_1.length co44 (ji12) (dA) q49 (Kd.R_reads' HO_4.out).2.1; have hr49 := Kd.R_take (m := ((ji12) : Int).toNat) HO_4.out (by omega); have hy49 : y165.length = ((ji12) : Int).toNat := (by rw [Ny165.out, List.length_take]; omega); rw [← Ny165.out] at hr49; rw [← hy49] at hr49 hcut49; clear hy49 hi049 hsz49 HO_4; have HO167 := Aside0.mk hr49; clear hr49; replace q49 := eq_true q49; have hcz50_0 : w48.cell? ⟨gb164, 0, none⟩ = some (.int .i64 t162) := (blk_cell BK164.out 0).trans rfl; have hcz50_1 : w48.cell? ⟨gb164, 1, none⟩ = some (.string t163) := (blk_cell BK164.out 1).trans rfl; have hfz50_0 := blk_frozen BK164.out 0; have hfz50_1 := blk_frozen BK164.out 1; obtain ⟨Ao51, co51, eo51⟩ := Kd.R_slice HO_3.out; subst eo51; have p168 : 0 ≤ ((ji19) : Int) := dA; have q168 : (ji19) < (x3_1.length : Int) := dA; obtain ⟨ad168, e168, hx168_0, hx168_1⟩ := at_T38 (Kd.R_reads' HO_3.out).2.2 (ji19) p168 q168; cases e168; replace p168 := eq_true p168; replace q168 := eq_true q168; have p172 : 0 ≤ ((ji19) : Int) := dA; have q172 : (ji19) < (x3_1.length : Int) := dA; obtain ⟨ad172, e172, hx172_0, hx172_1⟩ := at_T38 (Kd.R_reads' HO_3.out).2.2 (ji19) p172 q172; obtain rfl : ad168 = ad172 := (by injection e172); replace p172 := eq_true p172; replace q172 := eq_true q172))
    refine wp_goto (And.intro rfl ?_)
    refine hKs0 _ _ ?_
    go_roundg k1
    case measure => have := HK1.out; omega
    case rel => exact ⟨(x3_1), (y165), H', ⟨by have := HK1.out; omega⟩, ⟨by (with_reducible repeat (first | apply Kd.R_alloc | apply Kd.R_drewN | apply Kd.R_drew)); exact Kd.R_mono HO_3.out (fun _ hk => trivial)⟩, ⟨kR HO167⟩, ⟨bG⟩⟩
   rw [if_pos c33] at H
   obtain ⟨c33b0, c33b1⟩ := eqT c33
   clear c33
   obtain ⟨c34, H⟩ := gp H
   have LMc34 := Aside0.mk c34
   clear c34
   obtain ⟨y173, hy173⟩ : ∃ y_ : List (S38), y_ = (x3_1 ++ [(⟨t162, t163⟩ : S38)]) := ⟨_, rfl⟩
   replace H : (words_Split.l0 k1 y173 y165) = some r := by first | (rw [hy173]; with_reducible exact H) | (have H2_ := (Option.bind_some _ _).symm.trans H; rw [hy173]; with_reducible exact H2_) | (have H2_ := (Option.bind_some _ _).symm.trans H; with_reducible exact H2_) | with_reducible exact H | (rw [hy173]; exact H) | exact H
   have Ny173 := Aside0.mk hy173
   clear hy173
   have H' := Aside0.mk H
   clear H
   obtain ⟨Ao35, co35, eo35⟩ := Kd.R_slice HO_4.out
   subst eo35
   have p161 : 0 ≤ ((ji12) : Int) := dA
   have q161 : (ji12) < (x4_1.length : Int) := dA
   obtain ⟨ad161, e161, hx161_0, hx161_1, hx161_2⟩ := at_T93 (Kd.R_reads' HO_4.out).2.2 (ji12) p161 q161
   cases e161
   replace p161 := eq_true p161
   replace q161 := eq_true q161
   go_wp2_with (first | ((with_reducible refine gate_callee (f := 74) rfl ?_); refine goesL_ (some 21) rfl rfl Tryd.func74 (by kernel_rfl) rfl #[.agg #[.string ((rd_T93 x4_1 (ji12)).f0), .bool ((rd_T93 x4_1 (ji12)).f1), .bool ((rd_T93 x4_1 (ji12)).f2)]] rfl (by (try simp only [List.map_toArray, List.map_cons, List.map_nil]); first | done | (simp only [hji12]; rfl) | rfl | (simp only [List.length_drop, List.length_take]; rfl)) ?_; (with_reducible refine (words_word.calls k1 ((rd_T93 x4_1 (ji12)).f0) ((rd_T93 x4_1 (ji12)).f1) ((rd_T93 x4_1 (ji12)).f2) t162 t163 _ (gS HG) A15.out).mono ?_); rintro e w36 ⟨rfl, hb⟩; refine ⟨_, rfl, ?_⟩; replace HO_3 := rB HO_3 hb; replace HO_4 := rB HO_4 hb; replace HB := sB hb; (try clear hb)) | ((with_reducible refine gate_dst (N := 5) rfl ?_); (try (refine gate_guard (by rfl) ?_; dsimp only)); refine be 5 #[.int .i64 0, .string (⟨#[]⟩ : ByteArray)] 38 ?_; intro gb164 hg w37 hbox hb; replace HO_3 := Aside0.mk (Kd.R_below (Kd.R_elderB (kR HO_3) gb164 (Nat.le_of_eq hg.symm)) hb); replace HO_4 := rB HO_4 hb; have BK164 := Aside0.mk (hbox); have GW164 := gW hg; have GE164 := gW hg; replace HB := sB hb; clear hb hbox hg; have hcz38_0 : w37.cell? ⟨gb164, 0, none⟩ = some (.int .i64 0) := (blk_cell BK164.out 0).trans rfl; have hcz38_1 : w37.cell? ⟨gb164, 1, none⟩ = some (.string (⟨#[]⟩ : ByteArray)) := (blk_cell BK164.out 1).trans rfl; have hfz38_0 := blk_frozen BK164.out 0; have hfz38_1 := blk_frozen BK164.out 1) | ((with_reducible refine gate_store (t := 38) (p := 5) rfl ?_); refine store_event (t := 38) (p := 5) (v := ?vo_w39) (w1 := ((w37.setCell ⟨gb164, 0, none⟩ (.int .i64 t162)).setCell ⟨gb164, 1, none⟩ (.string t163))) ?hg ?ho ?hn ?hr ?_; (case ho => rfl); (case hg => rfl); (case hn => rfl); (case hr => first | (go_simp; done) | (go_simp; rfl)); intro w39 hw; replace HO_3 : Aside0 (Kd.R k38 38 w39 w.heap.size (fun k_ => k_ ≠ gb164) u3 x3_1) := ⟨(by rw [hw]; exact (by (with_reducible repeat (first | apply Kd.R_alloc | apply Kd.R_drewN | apply Kd.R_drew)); exact Kd.R_mono (Kd.R_far (p := ⟨gb164, 1, none⟩) (Kd.R_far (p := ⟨gb164, 0, none⟩) (Kd.R_mono HO_3.out (fun k_ hk => (⟨hk, hk.2⟩ : _ ∧ k_ ≠ gb164))) (fun _ hk => hk.2) (.int .i64 t162)) (fun _ hk => hk.2) (.string t163)) (fun _ hk => hk.1.2)))⟩; replace HO_4 : Aside0 (Kd.R k93 93 w39 w.heap.size (fun _ => True) (.slice (some ad161) x4_1.length co35) x4_1) := ⟨(by rw [hw]; exact (by (with_reducible repeat (first | apply Kd.R_alloc | apply Kd.R_drewN | apply Kd.R_drew)); exact Kd.R_mono (Kd.R_far (p := ⟨gb164, 1, none⟩) (Kd.R_far (p := ⟨gb164, 0, none⟩) (Kd.R_types HO_4.out BK164.out (by decide)) (fun _ hk => hk.2) (.int .i64 t162)) (fun _ hk => hk.2) (.string t163)) (fun _ hk => trivial)))⟩; replace BK164 : Aside0 (w39.heap[gb164]? = some (.cells #[.int .i64 t162, .string t163] 38 (0, 0))) := ⟨(by rw [hw]; exact (bP BK164))⟩; replace HB : Aside0 (Below w.heap.size w w39) := ⟨(by rw [hw]; exact bG)⟩; clear hw; have q40 : ((ji12) : Int) ≤ ((x4_1.length : Int) : Int) := dA; obtain ⟨i040, hi040, _, hsz40, _⟩ := info_parts info93; have hcut40 := cut_to (P := Tryd.prog) 87 93 .i64 Tryd.underlying87 hi040 (some ad161) x4_1.length co35 (ji12) (dA) q40 (Kd.R_reads' HO_4.out).2.1; have hr40 := Kd.R_take (m := ((ji12) : Int).toNat) HO_4.out (by omega); have hy40 : y165.length = ((ji12) : Int).toNat := (by rw [Ny165.out, List.length_take]; omega); rw [← Ny165.out] at hr40; rw [← hy40] at hr40 hcut40; clear hy40 hi040 hsz40 HO_4; have HO167 := Aside0.mk hr40; clear hr40; replace q40 := eq_true q40; have hcz41_0 : w39.cell? ⟨gb164, 0, none⟩ = some (.int .i64 t162) := (blk_cell BK164.out 0).trans rfl; have hcz41_1 : w39.cell? ⟨gb164, 1, none⟩ = some (.string t163) := (blk_cell BK164.out 1).trans rfl; have hfz41_0 := blk_frozen BK164.out 0; have hfz41_1 := blk_frozen BK164.out 1; obtain ⟨Ao42, co42, eo42⟩ := Kd.R_slice HO_3.out; subst eo42; have p168 : 0 ≤ ((ji19) : Int) := dA; have q168 : (ji19) < (x3_1.length : Int) := dA; obtain ⟨ad168, e168, hx168_0, hx168_1⟩ := at_T38 (Kd.R_reads' HO_3.out).2.2 (ji19) p168 q168; cases e168; replace p168 := eq_true p168; replace q168 := eq_true q168; have p172 : 0 ≤ ((ji19) : Int) := dA; have q172 : (ji19) < (x3_1.length : Int) := dA; obtain ⟨ad172, e172, hx172_0, hx172_1⟩ := at_T38 (Kd.R_reads' HO_3.out).2.2 (ji19) p172 q172; obtain rfl : ad168 = ad172 := (by injection e172); replace p172 := eq_true p172; replace q172 := eq_true q172) | ((with_reducible refine gate_builtin (b := .append) (xs := #[.tmp 55, .tmp 57]) rfl ?_); (try (refine gate_guard (by rfl) ?_; dsimp only)); at_builtin; refine Kd.R_append k38 (w0 := w) w.heap.size rfl (.tmp 55) (.tmp 57) 39 38 (.agg #[(.int .i64 0), (.string ⟨#[]⟩)]) 24 rfl Tryd.underlying39 info38 rfl (by decide) (by omega) (.slice (some ad168) x3_1.length co42) x3_1 (⟨t162, t163⟩ : S38) [.int .i64 t162, .string t163] (fun k_ => k_ ≠ gb164) (fun _ => False) rfl rfl ?aP (fun _ hk => hk.elim) ?aF ?aO ?aB ?aS ?aL ?_; (case aP => exact k38_mkM _ _ _ (⟨t162, t163⟩ : S38)); (case aB => exact bG); (case aF => exact (fun k_ hk => Kd.freshB (g := gb164) (o := .cells #[.int .i64 t162, .string t163] 38 (0, 0)) (bK BK164) k_ hk)); (case aO => exact (kR HO_3)); (case aS => exact (below_size bG)); (case aL => have := LMc34.out; omega); intro v174 w43 ho hb hg hat; rw [← Ny173.out] at ho; replace HO167 := Aside0.mk (Kd.R_over' (kR HO167) (Kd.R_typed (kR HO_3)) (by decide) hg); replace BK164 := Aside0.mk (blk_grown (g := gb164) (o := .cells #[.int .i64 t162, .string t163] 38 (0, 0)) (bK BK164) hg (Kd.R_away HO_3.out (fun _ hk => hk))); replace HB := Aside0.mk (hb); have HO175 := Aside0.mk (ho); clear HO_3; clear ho hb hg hat))
   refine wp_goto (And.intro rfl ?_)
   refine hKs0 _ _ ?_
   go_roundg k1
   case measure => have := HK1.out; omega
   case rel => exact ⟨(y173), (y165), H', ⟨by have := HK1.out; omega⟩, ⟨by (with_reducible repeat (first | apply Kd.R_alloc | apply Kd.R_drewN | apply Kd.R_drew)); exact Kd.R_mono HO175.out (fun _ hk => trivial)⟩, ⟨kR HO167⟩, ⟨bG⟩⟩
def order_Compare.f (k : Nat) (a0 : ByteArray) (a1 : ByteArray) : Option (Int) := (words_Split.f k a0).bind fun t334 => ((words_Split.f k a1).bind fun t337 => ((order_Words.f k t334 t337).bind fun t340 => (some t340)))
theorem order_Compare.calls (k : Nat) (a0 : ByteArray) (a1 : ByteArray) (r : Int) (w : World) (hG : Glob w) (h : order_Compare.f k a0 a1 = some r) :
 Calls Tryd.prog 114 #[.string a0, .string a1] w fun e w' => e = .returned (.int .i64 r) ∧ Below w.heap.size w w' := by
 have HG := Aside0.mk hG
 clear hG
 have HB := Aside0.mk (Below.refl w.heap.size w)
 have H : ((words_Split.f k a0).bind fun t334 => ((words_Split.f k a1).bind fun t337 => ((order_Words.f k t334 t337).bind fun t340 => (some t340)))) = some r := h
 clear h
 replace H := bi H
 obtain ⟨t334, A30, H⟩ := H
 try dsimp only at H
 have A3 := Aside0.mk A30
 clear A30
 replace H := bi H
 obtain ⟨t337, A40, H⟩ := H
 try dsimp only at H
 have A4 := Aside0.mk A40
 clear A40
 replace H := bi H
 obtain ⟨t340, A50, H⟩ := H
 try dsimp only at H
 have A5 := Aside0.mk A50
 clear A50
 obtain rfl := Option.some.inj H
 go_enter Tryd.func114, Tryd.ntmps114
 go_wp2_with (first | (refine gl (some 6) Tryd.func31 #[.string a0] ?_; (with_reducible refine (words_Split.calls k a0 t334 _ (gS HG) A3.out).mono ?_); rintro e w6 ⟨v335, rfl, ho0, hb⟩; refine ⟨_, rfl, ?_⟩; have HO336 := Aside0.mk (Kd.R_lower ho0 (below_size bE)); replace HB := sB hb; (try clear hb); (try clear ho0)) | (refine gl (some 8) Tryd.func31 #[.string a1] ?_; (with_reducible refine (words_Split.calls k a1 t337 _ (gS HG) A4.out).mono ?_); rintro e w7 ⟨v338, rfl, ho0, hb⟩; refine ⟨_, rfl, ?_⟩; have HO339 := Aside0.mk (Kd.R_lower (Kd.R_new' ho0 (Kd.R_lt (kR HO336))) (below_size bE)); replace HO336 := Aside0.mk (Kd.R_elder' (kR HO336) (Kd.R_base ho0) hb); replace HB := sB hb; (try clear hb); (try clear ho0); obtain ⟨Ao8, co8, eo8⟩ := Kd.R_slice HO336.out; subst eo8; obtain ⟨Ao9, co9, eo9⟩ := Kd.R_slice HO339.out; subst eo9) | (refine gl (some 9) Tryd.func141 #[.slice Ao8 t334.length co8, .slice Ao9 t337.length co9] ?_; (with_reducible refine (order_Words.calls k _ _ t334 _ _ t337 t340 _ ?side1 ?side2 ?side3 ?side4 (gS HG) A5.out).mono ?_); (case side1 => repeat (first | exact (Kd.R_reads' HO336.out).2.2 | (with_reducible refine Kd.C_alloc ?_ _) | (with_reducible refine Kd.C_drewN ?_ _) | (with_reducible refine Kd.C_drew ?_))); (case side2 => exact (Kd.R_reads' HO336.out).2.1); (case side3 => repeat (first | exact (Kd.R_reads' HO339.out).2.2 | (with_reducible refine Kd.C_alloc ?_ _) | (with_reducible refine Kd.C_drewN ?_ _) | (with_reducible refine Kd.C_drew ?_))); (case side4 => exact (Kd.R_reads' HO339.out).2.1); rintro e w10 ⟨rfl, hb⟩; refine ⟨_, rfl, ?_⟩; replace HO336 := rB HO336 hb; replace HO339 := rB HO339 hb; replace HB := sB hb; (try clear hb)))
 go_ret
 exact ⟨eA, bE⟩
def coord_Compare.f (k : Nat) (a0_0 : ByteArray) (a0_1 : ByteArray) (a0_2 : ByteArray) (a1_0 : ByteArray) (a1_1 : ByteArray) (a1_2 : ByteArray) : Option (Int) := (cmp_Compare_string.f a0_0 a1_0).bind fun t699 => ((cmp_Compare_string.f a0_1 a1_1).bind fun t700 => ((order_Compare.f k a0_2 a1_2).bind fun t701 => ((cmp_Compare_string.f a0_2 a1_2).bind fun t702 => ((cmp_Or_int.f k (([t699, t700, t701, t702] : List Int))).bind fun t706 => (some t706)))))
def coord_Compare.T1 : Bool × List (List Nat × List Nat) := (true, [([], []), ([0], [0]), ([], []), ([2], [2]), ([1, 3], [1, 3]), ([], []), ([5], [5]), ([], []), ([7], [7]), ([6, 8, 4], [6, 8]), ([], []), ([10], [10]), ([], []), ([12], [12]), ([11, 13, 9], [11, 13]), ([], []), ([15], [15]), ([], []), ([17], [17]), ([16, 18, 14], [16, 18]), ([4, 9, 14, 19], [4, 9, 14, 19]), ([20, 19], [20]), ([21, 21, 0, 1, 2, 3, 4, 5, 6, 7, 8, 9, 10, 11, 12, 13, 14, 15, 16, 17, 18, 19, 20, 21], [21])])
def coord_Compare.B1 : List Nat := [0, 1, 0, 4, 15, 0, 32, 0, 128, 511, 0, 1024, 0, 4096, 16383, 0, 32768, 0, 131072, 524287, 1048575, 2097151, 4194303]
theorem coord_Compare.tab1 : rtab .any (opsOf Tryd.f82 1) = coord_Compare.T1 := by kernel_rfl
theorem coord_Compare.bits1 : waitsOk coord_Compare.T1.2 coord_Compare.B1 = true := by kernel_rfl
theorem coord_Compare.calls (k : Nat) (a0_0 : ByteArray) (a0_1 : ByteArray) (a0_2 : ByteArray) (a1_0 : ByteArray) (a1_1 : ByteArray) (a1_2 : ByteArray) (r : Int) (w : World) (hG : Glob w) (h : coord_Compare.f k a0_0 a0_1 a0_2 a1_0 a1_1 a1_2 = some r) :
 Calls Tryd.prog 82 #[.agg #[.string a0_0, .string a0_1, .string a0_2], .agg #[.string a1_0, .string a1_1, .string a1_2]] w fun e w' => e = .returned (.int .i64 r) ∧ Below w.heap.size w w' := by
 have hu32 := Tryd.underlying32
 have HG := Aside0.mk hG
 clear hG
 have HB := Aside0.mk (Below.refl w.heap.size w)
 have H : ((cmp_Compare_string.f a0_0 a1_0).bind fun t699 => ((cmp_Compare_string.f a0_1 a1_1).bind fun t700 => ((order_Compare.f k a0_2 a1_2).bind fun t701 => ((cmp_Compare_string.f a0_2 a1_2).bind fun t702 => ((cmp_Or_int.f k (([t699, t700, t701, t702] : List Int))).bind fun t706 => (some t706)))))) = some r := h
 clear h
 replace H := bi H
 obtain ⟨t699, A30, H⟩ := H
 try dsimp only at H
 have A3 := Aside0.mk A30
 clear A30
 replace H := bi H
 obtain ⟨t700, A40, H⟩ := H
 try dsimp only at H
 have A4 := Aside0.mk A40
 clear A40
 replace H := bi H
 obtain ⟨t701, A50, H⟩ := H
 try dsimp only at H
 have A5 := Aside0.mk A50
 clear A50
 replace H := bi H
 obtain ⟨t702, A60, H⟩ := H
 try dsimp only at H
 have A6 := Aside0.mk A60
 clear A60
 obtain ⟨y703, hy703⟩ : ∃ y_ : List Int, y_ = (([t699, t700, t701, t702] : List Int)) := ⟨_, rfl⟩
 replace H : ((cmp_Or_int.f k y703).bind fun t706 => (some t706)) = some r := by first | (rw [hy703]; with_reducible exact H) | (have H2_ := (Option.bind_some _ _).symm.trans H; rw [hy703]; with_reducible exact H2_) | (have H2_ := (Option.bind_some _ _).symm.trans H; with_reducible exact H2_) | with_reducible exact H | (rw [hy703]; exact H) | exact H
 have Ny703 := Aside0.mk hy703
 clear hy703
 replace H := bi H
 obtain ⟨t706, A70, H⟩ := H
 try dsimp only at H
 have A7 := Aside0.mk A70
 clear A70
 obtain rfl := Option.some.inj H
 go_enter Tryd.func82, Tryd.ntmps82
 try go_wp2_with (first | (refine be 2 #[.string a0_0, .string a0_1, .string a0_2] 32 ?_; intro gb697 hg w8 hbox hb; have BK697 := Aside0.mk (hbox); have GW697 := gW hg; have GE697 := gW hg; replace HB := sB hb; clear hb hbox hg) | (refine be 3 #[.string a1_0, .string a1_1, .string a1_2] 32 ?_; intro gb698 hg w9 hbox hb; have BK698 := Aside0.mk (hbox); have GW698 := gW hg; have GE698 := gW hg; replace HB := sB hb; have NB697_698 := nL BK697 hg; have NB698_697 := nG BK697 hg; replace BK697 := kB BK697 hb; clear hb hbox hg))
 replace BK697 := Aside0.mk (blk_drew BK697.out)
 replace BK698 := Aside0.mk (blk_drew BK698.out)
 replace HB := Aside0.mk (below_drew1 HB.out)
 refine start_ (n := 23) (S := fun w' => w'.cell? ⟨gb697, 0, none⟩ = some (.string a0_0) ∧ w'.cell? ⟨gb697, 1, none⟩ = some (.string a0_1) ∧ w'.cell? ⟨gb697, 2, none⟩ = some (.string a0_2) ∧ w'.cell? ⟨gb698, 0, none⟩ = some (.string a1_0) ∧ w'.cell? ⟨gb698, 1, none⟩ = some (.string a1_1) ∧ w'.cell? ⟨gb698, 2, none⟩ = some (.string a1_2)) (ds := []) #[false, false, false, false, false, false, false, false, false, false, false, false, false, false, false, false, false, false, false, false, false, false, false] (by kernel_rfl) rfl rfl ⟨(blk_cell BK697.out 0).trans rfl, (blk_cell BK697.out 1).trans rfl, (blk_cell BK697.out 2).trans rfl, (blk_cell BK698.out 0).trans rfl, (blk_cell BK698.out 1).trans rfl, (blk_cell BK698.out 2).trans rfl⟩ (fun hHeld => ?_); refine with_tabW coord_Compare.tab1 coord_Compare.bits1 (fun HT_ HW_ => ?_)
 generalize w9.drew = w10 at BK697 BK698 HB hHeld ⊢
 refine pz 0 (some 5) HT_ ?_
 refine pz 2 (some 7) HT_ ?_
 refine pz 5 (some 10) HT_ ?_
 refine pz 7 (some 12) HT_ ?_
 refine pz 10 (some 15) HT_ ?_
 refine pz 12 (some 17) HT_ ?_
 refine pz 15 (some 20) HT_ ?_
 refine pz 17 (some 22) HT_ ?_
 refine tm 1 (some 6) HT_ HW_ hHeld ?_
 refine tm 3 (some 8) HT_ HW_ hHeld ?_
 refine tm 6 (some 11) HT_ HW_ hHeld ?_
 refine tm 8 (some 13) HT_ HW_ hHeld ?_
 refine tm 11 (some 16) HT_ HW_ hHeld ?_
 refine tm 13 (some 18) HT_ HW_ hHeld ?_
 refine tm 16 (some 21) HT_ HW_ hHeld ?_
 refine tm 18 (some 23) HT_ HW_ hHeld ?_
 refine on 4 (some 9) HT_ (fun K hK => ?_)
 refine goes_ Tryd.func113 (by kernel_rfl) rfl #[.string a0_0, .string a1_0] (by rfl) rfl rfl mA ?_
 with_reducible refine (cmp_Compare_string.calls a0_0 a1_0 t699 _ (gS HG) A3.out).mono ?_
 rintro e w' ⟨rfl, ⟨nd, rfl⟩⟩
 refine ⟨_, rfl, ?_⟩
 refine hK.out _ _ ⟨(blk_cell BK697.out 0).trans rfl, (blk_cell BK697.out 1).trans rfl, (blk_cell BK697.out 2).trans rfl, (blk_cell BK698.out 0).trans rfl, (blk_cell BK698.out 1).trans rfl, (blk_cell BK698.out 2).trans rfl⟩ (fun hHeld => ?_)
 clear hK K
 refine nz (some 9) ?_
 refine on 9 (some 14) HT_ (fun K hK => ?_)
 refine goes_ Tryd.func113 (by kernel_rfl) rfl #[.string a0_1, .string a1_1] (by rfl) rfl rfl mA ?_
 with_reducible refine (cmp_Compare_string.calls a0_1 a1_1 t700 _ (gS HG) A4.out).mono ?_
 rintro e w' ⟨rfl, ⟨nd, rfl⟩⟩
 refine ⟨_, rfl, ?_⟩
 refine hK.out _ _ ⟨(blk_cell BK697.out 0).trans rfl, (blk_cell BK697.out 1).trans rfl, (blk_cell BK697.out 2).trans rfl, (blk_cell BK698.out 0).trans rfl, (blk_cell BK698.out 1).trans rfl, (blk_cell BK698.out 2).trans rfl⟩ (fun hHeld => ?_)
 clear hK K
 refine nz (some 14) ?_
 refine on 14 (some 19) HT_ (fun K hK => ?_)
 refine goes_ Tryd.func114 (by kernel_rfl) rfl #[.string a0_2, .string a1_2] (by rfl) rfl rfl mA ?_
 with_reducible refine (order_Compare.calls k a0_2 a1_2 t701 _ (gS HG) A5.out).mono ?_
 rintro e w11 ⟨rfl, hb⟩
 refine ⟨_, rfl, ?_⟩
 replace BK697 := kB BK697 hb
 replace BK698 := kB BK698 hb
 replace HB := sB hb
 (try clear hb)
 refine hK.out _ _ ⟨(blk_cell BK697.out 0).trans rfl, (blk_cell BK697.out 1).trans rfl, (blk_cell BK697.out 2).trans rfl, (blk_cell BK698.out 0).trans rfl, (blk_cell BK698.out 1).trans rfl, (blk_cell BK698.out 2).trans rfl⟩ (fun hHeld => ?_)
 clear hK K
 refine nz (some 19) ?_
 refine on 19 (some 24) HT_ (fun K hK => ?_)
 refine goes_ Tryd.func113 (by kernel_rfl) rfl #[.string a0_2, .string a1_2] (by rfl) rfl rfl mA ?_
 with_reducible refine (cmp_Compare_string.calls a0_2 a1_2 t702 _ (gS HG) A6.out).mono ?_
 rintro e w' ⟨rfl, ⟨nd, rfl⟩⟩
 refine ⟨_, rfl, ?_⟩
 refine hK.out _ _ ⟨(blk_cell BK697.out 0).trans rfl, (blk_cell BK697.out 1).trans rfl, (blk_cell BK697.out 2).trans rfl, (blk_cell BK698.out 0).trans rfl, (blk_cell BK698.out 1).trans rfl, (blk_cell BK698.out 2).trans rfl⟩ (fun hHeld => ?_)
 clear hK K
 refine nz (some 24) ?_
 refine on 20 (some 25) HT_ (fun K hK => ?_)
 refine Kd.R_lit_step (Kd.int .i64) _ 3 ?hg (N := 25) ?hd (xs := ([t699, t700, t701, t702] : List Int)) (inner := [.int .i64 t699, .int .i64 t700, .int .i64 t701, .int .i64 t702]) (ok := fun _ => True) (okp := fun _ => True) ?hr ?hp (fun _ hk => hk) trivial (Below.refl _ _) (Nat.le_refl _) (by simp) ?_; (case hd => rfl); (case hg => rfl); (case hr => first | (go_simp; done) | (go_simp; rfl)); (case hp => exact (Reps.one (show Kd.M (Kd.int .i64) _ _ _ t699 [.int .i64 t699] from rfl) (Reps.one (show Kd.M (Kd.int .i64) _ _ _ t700 [.int .i64 t700] from rfl) (Reps.one (show Kd.M (Kd.int .i64) _ _ _ t701 [.int .i64 t701] from rfl) (Reps.one (show Kd.M (Kd.int .i64) _ _ _ t702 [.int .i64 t702] from rfl) (Reps.none _ _))))))
 intro v704 w12 ho13 hb hg_ hnew_
 clear hg_ hnew_
 (first | rw [← Ny703.out] at ho13 | (simp only [Int.reduceToNat] at ho13; rw [← Ny703.out] at ho13))
 have HO705 := Aside0.mk (Kd.R_lower ho13 (below_size bG))
 replace BK697 := kB BK697 hb
 replace BK698 := kB BK698 hb
 replace HB := sB hb
 clear hb ho13
 obtain ⟨Ao14, co14, eo14⟩ := Kd.R_slice HO705.out
 (first | subst eo14 | (injection eo14 with f1_ f2_ f3_; have f4_ := f1_.symm; have f5_ := f3_.symm; clear f1_ f2_ f3_; subst f4_; subst f5_))
 refine hK.out _ _ ⟨(blk_cell BK697.out 0).trans rfl, (blk_cell BK697.out 1).trans rfl, (blk_cell BK697.out 2).trans rfl, (blk_cell BK698.out 0).trans rfl, (blk_cell BK698.out 1).trans rfl, (blk_cell BK698.out 2).trans rfl⟩ (fun hHeld => ?_)
 clear hK K
 refine nz (some 25) ?_
 refine on 21 (some 26) HT_ (fun K hK => ?_)
 refine goes_ Tryd.func112 (by kernel_rfl) rfl #[.slice Ao14 y703.length co14] (by rfl) rfl rfl mA ?_
 with_reducible refine (cmp_Or_int.calls k _ _ y703 t706 _ ?side1 ?side2 (gS HG) A7.out).mono ?_
 (case side1 => repeat (first | exact (Kd.R_reads' HO705.out).2.2 | (with_reducible refine Kd.C_alloc ?_ _) | (with_reducible refine Kd.C_drewN ?_ _) | (with_reducible refine Kd.C_drew ?_)))
 (case side2 => exact (Kd.R_reads' HO705.out).2.1)
 rintro e w' ⟨rfl, ⟨nd, rfl⟩⟩
 refine ⟨_, rfl, ?_⟩
 refine hK.out _ _ ⟨(blk_cell BK697.out 0).trans rfl, (blk_cell BK697.out 1).trans rfl, (blk_cell BK697.out 2).trans rfl, (blk_cell BK698.out 0).trans rfl, (blk_cell BK698.out 1).trans rfl, (blk_cell BK698.out 2).trans rfl⟩ (fun hHeld => ?_)
 clear hK K
 refine nz (some 26) ?_
 refine pz 22 (some 4) HT_ ?_
 refine done_ (done_of HT_.out (by kernel_rfl)) ?_
 try go_wp2
 go_ret
 exact ⟨eA, bG⟩
def coord_Less.f (k : Nat) (a0_0 : ByteArray) (a0_1 : ByteArray) (a0_2 : ByteArray) (a1_0 : ByteArray) (a1_1 : ByteArray) (a1_2 : ByteArray) : Option (Bool) := (coord_Compare.f k a0_0 a0_1 a0_2 a1_0 a1_1 a1_2).bind fun t709 => (some (decide (t709 < 0)))
theorem coord_Less.calls (k : Nat) (a0_0 : ByteArray) (a0_1 : ByteArray) (a0_2 : ByteArray) (a1_0 : ByteArray) (a1_1 : ByteArray) (a1_2 : ByteArray) (r : Bool) (w : World) (hG : Glob w) (h : coord_Less.f k a0_0 a0_1 a0_2 a1_0 a1_1 a1_2 = some r) :
 Calls Tryd.prog 41 #[.agg #[.string a0_0, .string a0_1, .string a0_2], .agg #[.string a1_0, .string a1_1, .string a1_2]] w fun e w' => e = .returned (.bool r) ∧ Below w.heap.size w w' := by
 have hu32 := Tryd.underlying32
 have HG := Aside0.mk hG
 clear hG
 have HB := Aside0.mk (Below.refl w.heap.size w)
 have H : ((coord_Compare.f k a0_0 a0_1 a0_2 a1_0 a1_1 a1_2).bind fun t709 => (some (decide (t709 < 0)))) = some r := h
 clear h
 replace H := bi H
 obtain ⟨t709, A30, H⟩ := H
 try dsimp only at H
 have A3 := Aside0.mk A30
 clear A30
 obtain rfl := Option.some.inj H
 go_enter Tryd.func41, Tryd.ntmps41
 go_wp2_with (first | (refine be 2 #[.string a0_0, .string a0_1, .string a0_2] 32 ?_; intro gb707 hg w4 hbox hb; have BK707 := Aside0.mk (hbox); have GW707 := gW hg; have GE707 := gW hg; replace HB := sB hb; clear hb hbox hg) | (refine be 3 #[.string a1_0, .string a1_1, .string a1_2] 32 ?_; intro gb708 hg w5 hbox hb; have BK708 := Aside0.mk (hbox); have GW708 := gW hg; have GE708 := gW hg; replace HB := sB hb; have NB707_708 := nL BK707 hg; have NB708_707 := nG BK707 hg; replace BK707 := kB BK707 hb; clear hb hbox hg; have hnb6 := NB707_708.out; have hnc6 := NB708_707.out; have hcz7_0 : w5.cell? ⟨gb707, 0, none⟩ = some (.string a0_0) := (blk_cell BK707.out 0).trans rfl; have hcz7_1 : w5.cell? ⟨gb707, 1, none⟩ = some (.string a0_1) := (blk_cell BK707.out 1).trans rfl; have hcz7_2 : w5.cell? ⟨gb707, 2, none⟩ = some (.string a0_2) := (blk_cell BK707.out 2).trans rfl; have hfz7_0 := blk_frozen BK707.out 0; have hfz7_1 := blk_frozen BK707.out 1; have hfz7_2 := blk_frozen BK707.out 2; have hcz8_0 : w5.cell? ⟨gb708, 0, none⟩ = some (.string a1_0) := (blk_cell BK708.out 0).trans rfl; have hcz8_1 : w5.cell? ⟨gb708, 1, none⟩ = some (.string a1_1) := (blk_cell BK708.out 1).trans rfl; have hcz8_2 : w5.cell? ⟨gb708, 2, none⟩ = some (.string a1_2) := (blk_cell BK708.out 2).trans rfl; have hfz8_0 := blk_frozen BK708.out 0; have hfz8_1 := blk_frozen BK708.out 1; have hfz8_2 := blk_frozen BK708.out 2) | (refine gl (some 7) Tryd.func82 #[.agg #[.string a0_0, .string a0_1, .string a0_2], .agg #[.string a1_0, .string a1_1, .string a1_2]] ?_; (with_reducible refine (coord_Compare.calls k a0_0 a0_1 a0_2 a1_0 a1_1 a1_2 t709 _ (gS HG) A3.out).mono ?_); rintro e w9 ⟨rfl, hb⟩; refine ⟨_, rfl, ?_⟩; replace BK707 := kB BK707 hb; replace BK708 := kB BK708 hb; replace HB := sB hb; (try clear hb)))
 go_ret
 exact ⟨eA, bG⟩
end Go.Proofs.YtgdjfcmmpjcaaaaDoor.Q
