/- Contracts of functions, written by a program of this work (xprint.py) out of the translation. -/
import Derived.Test.YtncndmhmmfbklaaDoorXS0
import Derived.Test.YtncndmhmmfbklaaDoorXS1
import Derived.Test.YtncndmhmmfbklaaDoorFst
import Derived.Test.YtncndmhmmfbklaaDoorShrH
import Derived.Test.YtncndmhmmfbklaaDoorShrH
import Derived.Test.YtncndmhmmfbklaaDoorShrH
import Derived.Test.YtncndmhmmfbklaaDoorSumH
import Derived.Test.YtncndmhmmfbklaaDoorGlob
namespace Go.Proofs.YtncndmhmmfbklaaDoor.X
open Go.RowKit Go.Proofs.YtncndmhmmfbklaaDoorW.PrintWords Go.Proofs.YtncndmhmmfbklaaDoorW.PrintLast Go.Proofs.YtncndmhmmfbklaaDoorW.PrintMore
attribute [local go_sem] max2_int min2_int max_two min_two max_three min_three max_four min_four   -- for this text's walks alone
set_option linter.unusedVariables false
set_option linter.unusedSimpArgs false

/-! ### daybooklaw01_MoneyShares: function 5 -/
mutual
def daybooklaw01_MoneyShares.j0 : Nat → Int → List Int → Int → List Int → Int → Bool → Option (Bool)
  | 0, _, _, _, _, _, _ => none
  | k + 1, x0, x1, x2, x8, x10, x67 => if x67 = true then (some false) else (daybooklaw01_MoneyShares.l0 k x0 x1 x2 x8 x10 0)
def daybooklaw01_MoneyShares.l0 : Nat → Int → List Int → Int → List Int → Int → Int → Option (Bool)
  | 0, _, _, _, _, _, _ => none
  | k + 1, x0, x1, x2, x8, x10, x14 => if x14 < (x1.length : Int) then (if 0 ≤ x14 then ((money_Ratio.f x0 (rd x1 x14) x10 0).bind fun bt113 => ((money_Ratio.f x0 (rd x1 x14) x10 1).bind fun bt116 => (if bt113.2 = 0 then (if bt116.2 = 0 then (if x14 < (x8.length : Int) then (if (rd x8 x14) = bt113.1 then (if (rd x1 x14) = 0 then (daybooklaw01_MoneyShares.j2 k x0 x1 x2 x8 x10 x14 ((rd x8 x14) != 0)) else (daybooklaw01_MoneyShares.j2 k x0 x1 x2 x8 x10 x14 false)) else (if (rd x8 x14) = bt116.1 then (if (rd x1 x14) = 0 then (daybooklaw01_MoneyShares.j2 k x0 x1 x2 x8 x10 x14 ((rd x8 x14) != 0)) else (daybooklaw01_MoneyShares.j2 k x0 x1 x2 x8 x10 x14 false)) else (daybooklaw01_MoneyShares.j2 k x0 x1 x2 x8 x10 x14 true))) else (none)) else (daybooklaw01_MoneyShares.j2 k x0 x1 x2 x8 x10 x14 true)) else (daybooklaw01_MoneyShares.j2 k x0 x1 x2 x8 x10 x14 true)))) else (none)) else ((money_Split.f (wrap64 (-x0)) x1).bind fun bt136 => (if bt136.2 = 0 then (daybooklaw01_MoneyShares.j5 k x0 x1 x2 x8 x10 bt136.1 ((bt136.1.length : Int) != (x8.length : Int))) else (daybooklaw01_MoneyShares.j5 k x0 x1 x2 x8 x10 bt136.1 true)))
def daybooklaw01_MoneyShares.j2 : Nat → Int → List Int → Int → List Int → Int → Int → Bool → Option (Bool)
  | 0, _, _, _, _, _, _, _ => none
  | k + 1, x0, x1, x2, x8, x10, x14, x129 => if x129 = true then (some false) else (daybooklaw01_MoneyShares.l1 k x0 x1 x2 x8 x10 x14 0)
def daybooklaw01_MoneyShares.l1 : Nat → Int → List Int → Int → List Int → Int → Int → Int → Option (Bool)
  | 0, _, _, _, _, _, _, _ => none
  | k + 1, x0, x1, x2, x8, x10, x14, x19 => if x19 < x14 then (daybooklaw01_MoneyShares.j4 k x0 x1 x2 x8 x10 x14 x19 (decide (x0 ≥ 0))) else (daybooklaw01_MoneyShares.j4 k x0 x1 x2 x8 x10 x14 x19 false)
def daybooklaw01_MoneyShares.j4 : Nat → Int → List Int → Int → List Int → Int → Int → Int → Bool → Option (Bool)
  | 0, _, _, _, _, _, _, _, _ => none
  | k + 1, x0, x1, x2, x8, x10, x14, x19, x136 => if x136 = true then (if 0 ≤ x14 then (if x14 < (x1.length : Int) then (if 0 ≤ x19 then (if x19 < (x1.length : Int) then (if (rd x1 x14) > (rd x1 x19) then (if x14 < (x8.length : Int) then (if x19 < (x8.length : Int) then (if (rd x8 x14) < (rd x8 x19) then (some false) else (if (rd x1 x14) ≤ (rd x1 x19) then (if (rd x8 x14) > (rd x8 x19) then (some false) else (daybooklaw01_MoneyShares.l1 k x0 x1 x2 x8 x10 x14 (wrap64 (x19 + 1)))) else (daybooklaw01_MoneyShares.l1 k x0 x1 x2 x8 x10 x14 (wrap64 (x19 + 1))))) else (none)) else (none)) else (if (rd x1 x14) ≤ (rd x1 x19) then (if x14 < (x8.length : Int) then (if x19 < (x8.length : Int) then (if (rd x8 x14) > (rd x8 x19) then (some false) else (daybooklaw01_MoneyShares.l1 k x0 x1 x2 x8 x10 x14 (wrap64 (x19 + 1)))) else (none)) else (none)) else (daybooklaw01_MoneyShares.l1 k x0 x1 x2 x8 x10 x14 (wrap64 (x19 + 1))))) else (none)) else (none)) else (none)) else (none)) else (daybooklaw01_MoneyShares.l0 k x0 x1 x2 x8 x10 (wrap64 (x14 + 1)))
def daybooklaw01_MoneyShares.j5 : Nat → Int → List Int → Int → List Int → Int → List Int → Bool → Option (Bool)
  | 0, _, _, _, _, _, _, _ => none
  | k + 1, x0, x1, x2, x8, x10, x20, x196 => if x196 = true then (some false) else (daybooklaw01_MoneyShares.l2 k x0 x1 x2 x8 x10 x20 0)
def daybooklaw01_MoneyShares.l2 : Nat → Int → List Int → Int → List Int → Int → List Int → Int → Option (Bool)
  | 0, _, _, _, _, _, _, _ => none
  | k + 1, x0, x1, x2, x8, x10, x20, x21 => if x21 < (x20.length : Int) then (if 0 ≤ x21 then (if x21 < (x8.length : Int) then (if (rd x20 x21) = (wrap64 (-(rd x8 x21))) then (daybooklaw01_MoneyShares.l2 k x0 x1 x2 x8 x10 x20 (wrap64 (x21 + 1))) else (some false)) else (none)) else (none)) else ((money_Mul.f x10 x2).bind fun bt142 => (if x2 < 1 then (daybooklaw01_MoneyShares.j7 k x0 x1 x2 x8 true) else (if bt142.2 = 0 then (daybooklaw01_MoneyShares.j7 k x0 x1 x2 x8 (decide (bt142.1 < 1))) else (daybooklaw01_MoneyShares.j7 k x0 x1 x2 x8 true))))
def daybooklaw01_MoneyShares.j7 : Nat → Int → List Int → Int → List Int → Bool → Option (Bool)
  | 0, _, _, _, _, _ => none
  | k + 1, x0, x1, x2, x8, x228 => if x228 = true then (some true) else (daybooklaw01_MoneyShares.l3 k x0 x1 x2 x8 ([] : List Int) 0)
def daybooklaw01_MoneyShares.l3 : Nat → Int → List Int → Int → List Int → List Int → Int → Option (Bool)
  | 0, _, _, _, _, _, _ => none
  | k + 1, x0, x1, x2, x8, x23, x24 => if x24 < (x1.length : Int) then (if 0 ≤ x24 then (if x23.length < 17592186044416 then (daybooklaw01_MoneyShares.l3 k x0 x1 x2 x8 (x23 ++ [wrap64 ((rd x1 x24) * x2)]) (wrap64 (x24 + 1))) else (none)) else (none)) else ((money_Split.f x0 x23).bind fun bt148 => (if bt148.2 = 0 then ((daybooklaw01_same.f k bt148.1 x8).bind fun t152 => (some t152)) else (some false)))
end
def daybooklaw01_MoneyShares.f (k : Nat) (a0 : Int) (l1 : List Int) (a2 : Int) : Option (Bool) := (daybooklaw01_first.f).bind fun t103 => (if t103 = true then ((money_Split.f a0 l1).bind fun bt104 => ((money_Sum.f l1).bind fun bt108 => (if bt104.2 = 0 then ((money_Sum.f bt104.1).bind fun bt110 => (if bt108.2 = 0 then (if bt110.2 = 0 then (if bt110.1 = a0 then (daybooklaw01_MoneyShares.j0 k a0 l1 a2 bt104.1 bt108.1 ((bt104.1.length : Int) != (l1.length : Int))) else (daybooklaw01_MoneyShares.j0 k a0 l1 a2 bt104.1 bt108.1 true)) else (daybooklaw01_MoneyShares.j0 k a0 l1 a2 bt104.1 bt108.1 true)) else (daybooklaw01_MoneyShares.j0 k a0 l1 a2 bt104.1 bt108.1 true))) else (some ((bt104.1.length : Int) == 0))))) else (some false))
theorem daybooklaw01_MoneyShares.mono_l : ∀ k, (∀ y0 y1 y2 y3 y4 y5, LeO (daybooklaw01_MoneyShares.j0 k y0 y1 y2 y3 y4 y5) (daybooklaw01_MoneyShares.j0 (k + 1) y0 y1 y2 y3 y4 y5)) ∧ (∀ y0 y1 y2 y3 y4 y5, LeO (daybooklaw01_MoneyShares.l0 k y0 y1 y2 y3 y4 y5) (daybooklaw01_MoneyShares.l0 (k + 1) y0 y1 y2 y3 y4 y5)) ∧ (∀ y0 y1 y2 y3 y4 y5 y6, LeO (daybooklaw01_MoneyShares.j2 k y0 y1 y2 y3 y4 y5 y6) (daybooklaw01_MoneyShares.j2 (k + 1) y0 y1 y2 y3 y4 y5 y6)) ∧ (∀ y0 y1 y2 y3 y4 y5 y6, LeO (daybooklaw01_MoneyShares.l1 k y0 y1 y2 y3 y4 y5 y6) (daybooklaw01_MoneyShares.l1 (k + 1) y0 y1 y2 y3 y4 y5 y6)) ∧ (∀ y0 y1 y2 y3 y4 y5 y6 y7, LeO (daybooklaw01_MoneyShares.j4 k y0 y1 y2 y3 y4 y5 y6 y7) (daybooklaw01_MoneyShares.j4 (k + 1) y0 y1 y2 y3 y4 y5 y6 y7)) ∧ (∀ y0 y1 y2 y3 y4 y5 y6, LeO (daybooklaw01_MoneyShares.j5 k y0 y1 y2 y3 y4 y5 y6) (daybooklaw01_MoneyShares.j5 (k + 1) y0 y1 y2 y3 y4 y5 y6)) ∧ (∀ y0 y1 y2 y3 y4 y5 y6, LeO (daybooklaw01_MoneyShares.l2 k y0 y1 y2 y3 y4 y5 y6) (daybooklaw01_MoneyShares.l2 (k + 1) y0 y1 y2 y3 y4 y5 y6)) ∧ (∀ y0 y1 y2 y3 y4, LeO (daybooklaw01_MoneyShares.j7 k y0 y1 y2 y3 y4) (daybooklaw01_MoneyShares.j7 (k + 1) y0 y1 y2 y3 y4)) ∧ (∀ y0 y1 y2 y3 y4 y5, LeO (daybooklaw01_MoneyShares.l3 k y0 y1 y2 y3 y4 y5) (daybooklaw01_MoneyShares.l3 (k + 1) y0 y1 y2 y3 y4 y5))
  | 0 => ⟨fun _ _ _ _ _ _ r h => by simp [daybooklaw01_MoneyShares.j0] at h, fun _ _ _ _ _ _ r h => by simp [daybooklaw01_MoneyShares.l0] at h, fun _ _ _ _ _ _ _ r h => by simp [daybooklaw01_MoneyShares.j2] at h, fun _ _ _ _ _ _ _ r h => by simp [daybooklaw01_MoneyShares.l1] at h, fun _ _ _ _ _ _ _ _ r h => by simp [daybooklaw01_MoneyShares.j4] at h, fun _ _ _ _ _ _ _ r h => by simp [daybooklaw01_MoneyShares.j5] at h, fun _ _ _ _ _ _ _ r h => by simp [daybooklaw01_MoneyShares.l2] at h, fun _ _ _ _ _ r h => by simp [daybooklaw01_MoneyShares.j7] at h, fun _ _ _ _ _ _ r h => by simp [daybooklaw01_MoneyShares.l3] at h⟩
  | k + 1 => by
    obtain ⟨ih0, ih1, ih2, ih3, ih4, ih5, ih6, ih7, ih8⟩ := daybooklaw01_MoneyShares.mono_l k
    refine ⟨?_, ?_, ?_, ?_, ?_, ?_, ?_, ?_, ?_⟩
    · intro y0 y1 y2 y3 y4 y5
      unfold daybooklaw01_MoneyShares.j0
      repeat' first
      | (with_reducible exact ih0 _ _ _ _ _ _)
      | (with_reducible exact ih1 _ _ _ _ _ _)
      | (with_reducible exact ih2 _ _ _ _ _ _ _)
      | (with_reducible exact ih3 _ _ _ _ _ _ _)
      | (with_reducible exact ih4 _ _ _ _ _ _ _ _)
      | (with_reducible exact ih5 _ _ _ _ _ _ _)
      | (with_reducible exact ih6 _ _ _ _ _ _ _)
      | (with_reducible exact ih7 _ _ _ _ _)
      | (with_reducible exact ih8 _ _ _ _ _ _)
      | (with_reducible exact daybooklaw01_same.mono _ _ _)
      | (with_reducible exact LeO.refl _)
      | (with_reducible exact LeO.none _)
      | (with_reducible refine LeO.ite ?_ ?_)
      | (with_reducible refine LeO.bind ?_ (fun _ => ?_))
      | exact ih0 _ _ _ _ _ _
      | exact ih1 _ _ _ _ _ _
      | exact ih2 _ _ _ _ _ _ _
      | exact ih3 _ _ _ _ _ _ _
      | exact ih4 _ _ _ _ _ _ _ _
      | exact ih5 _ _ _ _ _ _ _
      | exact ih6 _ _ _ _ _ _ _
      | exact ih7 _ _ _ _ _
      | exact ih8 _ _ _ _ _ _
      | exact daybooklaw01_same.mono _ _ _
      | exact LeO.none _
      | refine LeO.ite ?_ ?_
      | refine LeO.bind ?_ (fun _ => ?_)
    · intro y0 y1 y2 y3 y4 y5
      unfold daybooklaw01_MoneyShares.l0
      repeat' first
      | (with_reducible exact ih0 _ _ _ _ _ _)
      | (with_reducible exact ih1 _ _ _ _ _ _)
      | (with_reducible exact ih2 _ _ _ _ _ _ _)
      | (with_reducible exact ih3 _ _ _ _ _ _ _)
      | (with_reducible exact ih4 _ _ _ _ _ _ _ _)
      | (with_reducible exact ih5 _ _ _ _ _ _ _)
      | (with_reducible exact ih6 _ _ _ _ _ _ _)
      | (with_reducible exact ih7 _ _ _ _ _)
      | (with_reducible exact ih8 _ _ _ _ _ _)
      | (with_reducible exact daybooklaw01_same.mono _ _ _)
      | (with_reducible exact LeO.refl _)
      | (with_reducible exact LeO.none _)
      | (with_reducible refine LeO.ite ?_ ?_)
      | (with_reducible refine LeO.bind ?_ (fun _ => ?_))
      | exact ih0 _ _ _ _ _ _
      | exact ih1 _ _ _ _ _ _
      | exact ih2 _ _ _ _ _ _ _
      | exact ih3 _ _ _ _ _ _ _
      | exact ih4 _ _ _ _ _ _ _ _
      | exact ih5 _ _ _ _ _ _ _
      | exact ih6 _ _ _ _ _ _ _
      | exact ih7 _ _ _ _ _
      | exact ih8 _ _ _ _ _ _
      | exact daybooklaw01_same.mono _ _ _
      | exact LeO.none _
      | refine LeO.ite ?_ ?_
      | refine LeO.bind ?_ (fun _ => ?_)
    · intro y0 y1 y2 y3 y4 y5 y6
      unfold daybooklaw01_MoneyShares.j2
      repeat' first
      | (with_reducible exact ih0 _ _ _ _ _ _)
      | (with_reducible exact ih1 _ _ _ _ _ _)
      | (with_reducible exact ih2 _ _ _ _ _ _ _)
      | (with_reducible exact ih3 _ _ _ _ _ _ _)
      | (with_reducible exact ih4 _ _ _ _ _ _ _ _)
      | (with_reducible exact ih5 _ _ _ _ _ _ _)
      | (with_reducible exact ih6 _ _ _ _ _ _ _)
      | (with_reducible exact ih7 _ _ _ _ _)
      | (with_reducible exact ih8 _ _ _ _ _ _)
      | (with_reducible exact daybooklaw01_same.mono _ _ _)
      | (with_reducible exact LeO.refl _)
      | (with_reducible exact LeO.none _)
      | (with_reducible refine LeO.ite ?_ ?_)
      | (with_reducible refine LeO.bind ?_ (fun _ => ?_))
      | exact ih0 _ _ _ _ _ _
      | exact ih1 _ _ _ _ _ _
      | exact ih2 _ _ _ _ _ _ _
      | exact ih3 _ _ _ _ _ _ _
      | exact ih4 _ _ _ _ _ _ _ _
      | exact ih5 _ _ _ _ _ _ _
      | exact ih6 _ _ _ _ _ _ _
      | exact ih7 _ _ _ _ _
      | exact ih8 _ _ _ _ _ _
      | exact daybooklaw01_same.mono _ _ _
      | exact LeO.none _
      | refine LeO.ite ?_ ?_
      | refine LeO.bind ?_ (fun _ => ?_)
    · intro y0 y1 y2 y3 y4 y5 y6
      unfold daybooklaw01_MoneyShares.l1
      repeat' first
      | (with_reducible exact ih0 _ _ _ _ _ _)
      | (with_reducible exact ih1 _ _ _ _ _ _)
      | (with_reducible exact ih2 _ _ _ _ _ _ _)
      | (with_reducible exact ih3 _ _ _ _ _ _ _)
      | (with_reducible exact ih4 _ _ _ _ _ _ _ _)
      | (with_reducible exact ih5 _ _ _ _ _ _ _)
      | (with_reducible exact ih6 _ _ _ _ _ _ _)
      | (with_reducible exact ih7 _ _ _ _ _)
      | (with_reducible exact ih8 _ _ _ _ _ _)
      | (with_reducible exact daybooklaw01_same.mono _ _ _)
      | (with_reducible exact LeO.refl _)
      | (with_reducible exact LeO.none _)
      | (with_reducible refine LeO.ite ?_ ?_)
      | (with_reducible refine LeO.bind ?_ (fun _ => ?_))
      | exact ih0 _ _ _ _ _ _
      | exact ih1 _ _ _ _ _ _
      | exact ih2 _ _ _ _ _ _ _
      | exact ih3 _ _ _ _ _ _ _
      | exact ih4 _ _ _ _ _ _ _ _
      | exact ih5 _ _ _ _ _ _ _
      | exact ih6 _ _ _ _ _ _ _
      | exact ih7 _ _ _ _ _
      | exact ih8 _ _ _ _ _ _
      | exact daybooklaw01_same.mono _ _ _
      | exact LeO.none _
      | refine LeO.ite ?_ ?_
      | refine LeO.bind ?_ (fun _ => ?_)
    · intro y0 y1 y2 y3 y4 y5 y6 y7
      unfold daybooklaw01_MoneyShares.j4
      repeat' first
      | (with_reducible exact ih0 _ _ _ _ _ _)
      | (with_reducible exact ih1 _ _ _ _ _ _)
      | (with_reducible exact ih2 _ _ _ _ _ _ _)
      | (with_reducible exact ih3 _ _ _ _ _ _ _)
      | (with_reducible exact ih4 _ _ _ _ _ _ _ _)
      | (with_reducible exact ih5 _ _ _ _ _ _ _)
      | (with_reducible exact ih6 _ _ _ _ _ _ _)
      | (with_reducible exact ih7 _ _ _ _ _)
      | (with_reducible exact ih8 _ _ _ _ _ _)
      | (with_reducible exact daybooklaw01_same.mono _ _ _)
      | (with_reducible exact LeO.refl _)
      | (with_reducible exact LeO.none _)
      | (with_reducible refine LeO.ite ?_ ?_)
      | (with_reducible refine LeO.bind ?_ (fun _ => ?_))
      | exact ih0 _ _ _ _ _ _
      | exact ih1 _ _ _ _ _ _
      | exact ih2 _ _ _ _ _ _ _
      | exact ih3 _ _ _ _ _ _ _
      | exact ih4 _ _ _ _ _ _ _ _
      | exact ih5 _ _ _ _ _ _ _
      | exact ih6 _ _ _ _ _ _ _
      | exact ih7 _ _ _ _ _
      | exact ih8 _ _ _ _ _ _
      | exact daybooklaw01_same.mono _ _ _
      | exact LeO.none _
      | refine LeO.ite ?_ ?_
      | refine LeO.bind ?_ (fun _ => ?_)
    · intro y0 y1 y2 y3 y4 y5 y6
      unfold daybooklaw01_MoneyShares.j5
      repeat' first
      | (with_reducible exact ih0 _ _ _ _ _ _)
      | (with_reducible exact ih1 _ _ _ _ _ _)
      | (with_reducible exact ih2 _ _ _ _ _ _ _)
      | (with_reducible exact ih3 _ _ _ _ _ _ _)
      | (with_reducible exact ih4 _ _ _ _ _ _ _ _)
      | (with_reducible exact ih5 _ _ _ _ _ _ _)
      | (with_reducible exact ih6 _ _ _ _ _ _ _)
      | (with_reducible exact ih7 _ _ _ _ _)
      | (with_reducible exact ih8 _ _ _ _ _ _)
      | (with_reducible exact daybooklaw01_same.mono _ _ _)
      | (with_reducible exact LeO.refl _)
      | (with_reducible exact LeO.none _)
      | (with_reducible refine LeO.ite ?_ ?_)
      | (with_reducible refine LeO.bind ?_ (fun _ => ?_))
      | exact ih0 _ _ _ _ _ _
      | exact ih1 _ _ _ _ _ _
      | exact ih2 _ _ _ _ _ _ _
      | exact ih3 _ _ _ _ _ _ _
      | exact ih4 _ _ _ _ _ _ _ _
      | exact ih5 _ _ _ _ _ _ _
      | exact ih6 _ _ _ _ _ _ _
      | exact ih7 _ _ _ _ _
      | exact ih8 _ _ _ _ _ _
      | exact daybooklaw01_same.mono _ _ _
      | exact LeO.none _
      | refine LeO.ite ?_ ?_
      | refine LeO.bind ?_ (fun _ => ?_)
    · intro y0 y1 y2 y3 y4 y5 y6
      unfold daybooklaw01_MoneyShares.l2
      repeat' first
      | (with_reducible exact ih0 _ _ _ _ _ _)
      | (with_reducible exact ih1 _ _ _ _ _ _)
      | (with_reducible exact ih2 _ _ _ _ _ _ _)
      | (with_reducible exact ih3 _ _ _ _ _ _ _)
      | (with_reducible exact ih4 _ _ _ _ _ _ _ _)
      | (with_reducible exact ih5 _ _ _ _ _ _ _)
      | (with_reducible exact ih6 _ _ _ _ _ _ _)
      | (with_reducible exact ih7 _ _ _ _ _)
      | (with_reducible exact ih8 _ _ _ _ _ _)
      | (with_reducible exact daybooklaw01_same.mono _ _ _)
      | (with_reducible exact LeO.refl _)
      | (with_reducible exact LeO.none _)
      | (with_reducible refine LeO.ite ?_ ?_)
      | (with_reducible refine LeO.bind ?_ (fun _ => ?_))
      | exact ih0 _ _ _ _ _ _
      | exact ih1 _ _ _ _ _ _
      | exact ih2 _ _ _ _ _ _ _
      | exact ih3 _ _ _ _ _ _ _
      | exact ih4 _ _ _ _ _ _ _ _
      | exact ih5 _ _ _ _ _ _ _
      | exact ih6 _ _ _ _ _ _ _
      | exact ih7 _ _ _ _ _
      | exact ih8 _ _ _ _ _ _
      | exact daybooklaw01_same.mono _ _ _
      | exact LeO.none _
      | refine LeO.ite ?_ ?_
      | refine LeO.bind ?_ (fun _ => ?_)
    · intro y0 y1 y2 y3 y4
      unfold daybooklaw01_MoneyShares.j7
      repeat' first
      | (with_reducible exact ih0 _ _ _ _ _ _)
      | (with_reducible exact ih1 _ _ _ _ _ _)
      | (with_reducible exact ih2 _ _ _ _ _ _ _)
      | (with_reducible exact ih3 _ _ _ _ _ _ _)
      | (with_reducible exact ih4 _ _ _ _ _ _ _ _)
      | (with_reducible exact ih5 _ _ _ _ _ _ _)
      | (with_reducible exact ih6 _ _ _ _ _ _ _)
      | (with_reducible exact ih7 _ _ _ _ _)
      | (with_reducible exact ih8 _ _ _ _ _ _)
      | (with_reducible exact daybooklaw01_same.mono _ _ _)
      | (with_reducible exact LeO.refl _)
      | (with_reducible exact LeO.none _)
      | (with_reducible refine LeO.ite ?_ ?_)
      | (with_reducible refine LeO.bind ?_ (fun _ => ?_))
      | exact ih0 _ _ _ _ _ _
      | exact ih1 _ _ _ _ _ _
      | exact ih2 _ _ _ _ _ _ _
      | exact ih3 _ _ _ _ _ _ _
      | exact ih4 _ _ _ _ _ _ _ _
      | exact ih5 _ _ _ _ _ _ _
      | exact ih6 _ _ _ _ _ _ _
      | exact ih7 _ _ _ _ _
      | exact ih8 _ _ _ _ _ _
      | exact daybooklaw01_same.mono _ _ _
      | exact LeO.none _
      | refine LeO.ite ?_ ?_
      | refine LeO.bind ?_ (fun _ => ?_)
    · intro y0 y1 y2 y3 y4 y5
      unfold daybooklaw01_MoneyShares.l3
      repeat' first
      | (with_reducible exact ih0 _ _ _ _ _ _)
      | (with_reducible exact ih1 _ _ _ _ _ _)
      | (with_reducible exact ih2 _ _ _ _ _ _ _)
      | (with_reducible exact ih3 _ _ _ _ _ _ _)
      | (with_reducible exact ih4 _ _ _ _ _ _ _ _)
      | (with_reducible exact ih5 _ _ _ _ _ _ _)
      | (with_reducible exact ih6 _ _ _ _ _ _ _)
      | (with_reducible exact ih7 _ _ _ _ _)
      | (with_reducible exact ih8 _ _ _ _ _ _)
      | (with_reducible exact daybooklaw01_same.mono _ _ _)
      | (with_reducible exact LeO.refl _)
      | (with_reducible exact LeO.none _)
      | (with_reducible refine LeO.ite ?_ ?_)
      | (with_reducible refine LeO.bind ?_ (fun _ => ?_))
      | exact ih0 _ _ _ _ _ _
      | exact ih1 _ _ _ _ _ _
      | exact ih2 _ _ _ _ _ _ _
      | exact ih3 _ _ _ _ _ _ _
      | exact ih4 _ _ _ _ _ _ _ _
      | exact ih5 _ _ _ _ _ _ _
      | exact ih6 _ _ _ _ _ _ _
      | exact ih7 _ _ _ _ _
      | exact ih8 _ _ _ _ _ _
      | exact daybooklaw01_same.mono _ _ _
      | exact LeO.none _
      | refine LeO.ite ?_ ?_
      | refine LeO.bind ?_ (fun _ => ?_)
theorem daybooklaw01_MoneyShares.mono : ∀ a0 a1 a2 k, LeO (daybooklaw01_MoneyShares.f k a0 a1 a2) (daybooklaw01_MoneyShares.f (k + 1) a0 a1 a2) := by
  intro a0 a1 a2 k
  obtain ⟨ih0, ih1, ih2, ih3, ih4, ih5, ih6, ih7, ih8⟩ := daybooklaw01_MoneyShares.mono_l k
  unfold daybooklaw01_MoneyShares.f
  repeat' first
      | (with_reducible exact ih0 _ _ _ _ _ _)
      | (with_reducible exact ih1 _ _ _ _ _ _)
      | (with_reducible exact ih2 _ _ _ _ _ _ _)
      | (with_reducible exact ih3 _ _ _ _ _ _ _)
      | (with_reducible exact ih4 _ _ _ _ _ _ _ _)
      | (with_reducible exact ih5 _ _ _ _ _ _ _)
      | (with_reducible exact ih6 _ _ _ _ _ _ _)
      | (with_reducible exact ih7 _ _ _ _ _)
      | (with_reducible exact ih8 _ _ _ _ _ _)
      | (with_reducible exact daybooklaw01_same.mono _ _ _)
      | (with_reducible exact LeO.refl _)
      | (with_reducible exact LeO.none _)
      | (with_reducible refine LeO.ite ?_ ?_)
      | (with_reducible refine LeO.bind ?_ (fun _ => ?_))
      | exact ih0 _ _ _ _ _ _
      | exact ih1 _ _ _ _ _ _
      | exact ih2 _ _ _ _ _ _ _
      | exact ih3 _ _ _ _ _ _ _
      | exact ih4 _ _ _ _ _ _ _ _
      | exact ih5 _ _ _ _ _ _ _
      | exact ih6 _ _ _ _ _ _ _
      | exact ih7 _ _ _ _ _
      | exact ih8 _ _ _ _ _ _
      | exact daybooklaw01_same.mono _ _ _
      | exact LeO.none _
      | refine LeO.ite ?_ ?_
      | refine LeO.bind ?_ (fun _ => ?_)
set_option maxHeartbeats 8000000 in
set_option maxRecDepth 100000 in
theorem daybooklaw01_MoneyShares.calls (k : Nat) (a0 : Int) (A1 : Option Addr) (c1 : Nat) (l1 : List Int) (a2 : Int) (r : Bool) (w : World) (hr1 : Kd.C (Kd.int .i64) w A1 l1.length l1) (hc1 : l1.length ≤ c1) (h : daybooklaw01_MoneyShares.f k a0 l1 a2 = some r) (G : Glob w) :
    Calls Tryd.prog 5 #[.int .i64 a0, .slice A1 l1.length c1, .int .i64 a2] w fun e w' => e = .returned (.bool r) ∧ Below w.heap.size w w' := by
  have G0 := Aside0.mk G
  clear G
  have HR1 := Aside0.mk hr1
  have HC1 := Aside0.mk hc1
  clear hr1 hc1
  have HB := Aside0.mk (Below.refl w.heap.size w)
  have H : ((daybooklaw01_first.f).bind fun t103 => (if t103 = true then ((money_Split.f a0 l1).bind fun bt104 => ((money_Sum.f l1).bind fun bt108 => (if bt104.2 = 0 then ((money_Sum.f bt104.1).bind fun bt110 => (if bt108.2 = 0 then (if bt110.2 = 0 then (if bt110.1 = a0 then (daybooklaw01_MoneyShares.j0 k a0 l1 a2 bt104.1 bt108.1 ((bt104.1.length : Int) != (l1.length : Int))) else (daybooklaw01_MoneyShares.j0 k a0 l1 a2 bt104.1 bt108.1 true)) else (daybooklaw01_MoneyShares.j0 k a0 l1 a2 bt104.1 bt108.1 true)) else (daybooklaw01_MoneyShares.j0 k a0 l1 a2 bt104.1 bt108.1 true))) else (some ((bt104.1.length : Int) == 0))))) else (some false))) = some r := h
  clear h
  replace H := Option.bind_eq_some_iff.mp H
  obtain ⟨t103, A40, H⟩ := H
  replace H : (if t103 = true then ((money_Split.f a0 l1).bind fun bt104 => ((money_Sum.f l1).bind fun bt108 => (if bt104.2 = 0 then ((money_Sum.f bt104.1).bind fun bt110 => (if bt108.2 = 0 then (if bt110.2 = 0 then (if bt110.1 = a0 then (daybooklaw01_MoneyShares.j0 k a0 l1 a2 bt104.1 bt108.1 ((bt104.1.length : Int) != (l1.length : Int))) else (daybooklaw01_MoneyShares.j0 k a0 l1 a2 bt104.1 bt108.1 true)) else (daybooklaw01_MoneyShares.j0 k a0 l1 a2 bt104.1 bt108.1 true)) else (daybooklaw01_MoneyShares.j0 k a0 l1 a2 bt104.1 bt108.1 true))) else (some ((bt104.1.length : Int) == 0))))) else (some false)) = some r := H
  have A4 := Aside0.mk A40
  clear A40
  by_cases c5 : t103 = true
  · subst c5
    have H1 : ((money_Split.f a0 l1).bind fun bt104 => ((money_Sum.f l1).bind fun bt108 => (if bt104.2 = 0 then ((money_Sum.f bt104.1).bind fun bt110 => (if bt108.2 = 0 then (if bt110.2 = 0 then (if bt110.1 = a0 then (daybooklaw01_MoneyShares.j0 k a0 l1 a2 bt104.1 bt108.1 ((bt104.1.length : Int) != (l1.length : Int))) else (daybooklaw01_MoneyShares.j0 k a0 l1 a2 bt104.1 bt108.1 true)) else (daybooklaw01_MoneyShares.j0 k a0 l1 a2 bt104.1 bt108.1 true)) else (daybooklaw01_MoneyShares.j0 k a0 l1 a2 bt104.1 bt108.1 true))) else (some ((bt104.1.length : Int) == 0))))) = some r := by rw [if_pos rfl] at H; exact H
    clear H
    have H := H1
    clear H1
    replace H := Option.bind_eq_some_iff.mp H
    obtain ⟨⟨t104, t105⟩, A60, H⟩ := H
    replace H : ((money_Sum.f l1).bind fun bt108 => (if t105 = 0 then ((money_Sum.f t104).bind fun bt110 => (if bt108.2 = 0 then (if bt110.2 = 0 then (if bt110.1 = a0 then (daybooklaw01_MoneyShares.j0 k a0 l1 a2 t104 bt108.1 ((t104.length : Int) != (l1.length : Int))) else (daybooklaw01_MoneyShares.j0 k a0 l1 a2 t104 bt108.1 true)) else (daybooklaw01_MoneyShares.j0 k a0 l1 a2 t104 bt108.1 true)) else (daybooklaw01_MoneyShares.j0 k a0 l1 a2 t104 bt108.1 true))) else (some ((t104.length : Int) == 0)))) = some r := H
    have A6 := Aside0.mk A60
    clear A60
    replace H := Option.bind_eq_some_iff.mp H
    obtain ⟨⟨t108, t109⟩, A70, H⟩ := H
    replace H : (if t105 = 0 then ((money_Sum.f t104).bind fun bt110 => (if t109 = 0 then (if bt110.2 = 0 then (if bt110.1 = a0 then (daybooklaw01_MoneyShares.j0 k a0 l1 a2 t104 t108 ((t104.length : Int) != (l1.length : Int))) else (daybooklaw01_MoneyShares.j0 k a0 l1 a2 t104 t108 true)) else (daybooklaw01_MoneyShares.j0 k a0 l1 a2 t104 t108 true)) else (daybooklaw01_MoneyShares.j0 k a0 l1 a2 t104 t108 true))) else (some ((t104.length : Int) == 0))) = some r := H
    have A7 := Aside0.mk A70
    clear A70
    by_cases c8 : t105 = 0
    · rw [if_pos c8] at H
      have c8b0 : (t105 == 0) = true := beq_iff_eq.mpr c8
      have c8b1 : (t105 != 0) = false := bne_eq_false_iff_eq.mpr c8
      clear c8
      replace H := Option.bind_eq_some_iff.mp H
      obtain ⟨⟨t110, t111⟩, A90, H⟩ := H
      replace H : (if t109 = 0 then (if t111 = 0 then (if t110 = a0 then (daybooklaw01_MoneyShares.j0 k a0 l1 a2 t104 t108 ((t104.length : Int) != (l1.length : Int))) else (daybooklaw01_MoneyShares.j0 k a0 l1 a2 t104 t108 true)) else (daybooklaw01_MoneyShares.j0 k a0 l1 a2 t104 t108 true)) else (daybooklaw01_MoneyShares.j0 k a0 l1 a2 t104 t108 true)) = some r := H
      have A9 := Aside0.mk A90
      clear A90
      have HC10 := Aside0.mk H
      clear H
      go_enter Tryd.func5, Tryd.ntmps5
      go_upto_region 9 with (first | (go_at_call 11; (with_reducible refine (daybooklaw01_first.calls  true _ A4.out (Glob.step G0.out (by repeat (first | (with_reducible first | exact HB.out | apply below_alloc | apply pw_below_drewN | apply below_drew1) | exact HB.out | exact Below.refl _ _)))).mono ?_); rintro e w11 ⟨rfl, hb⟩; have n0_ := Aside0.mk (below_step (by repeat (first | (with_reducible first | exact HB.out | apply below_alloc | apply pw_below_drewN | apply below_drew1) | exact HB.out)) hb); clear HB; have HB := n0_; clear n0_; (try clear hb); (try clear hb2); (try clear hk); (try clear hi)) | (go_at_call 14; (with_reducible refine (money_Split.calls a0 _ _ l1 t104 t105 _ ?side1 ?side2 A6.out (Glob.step G0.out (by repeat (first | (with_reducible first | exact HB.out | apply below_alloc | apply pw_below_drewN | apply below_drew1) | exact HB.out | exact Below.refl _ _)))).mono ?_); (case side1 => repeat (first | exact (Kd.C_below HR1.out HB.out) | (with_reducible refine Kd.C_alloc ?_ _) | (with_reducible refine Kd.C_drewN ?_ _) | (with_reducible refine Kd.C_drew ?_))); (case side2 => exact HC1.out); rintro e w12 ⟨v106, rfl, ho0, hb⟩; have n0_ := Aside0.mk (Kd.R_lower ho0 (below_size (by repeat (first | (with_reducible first | exact HB.out | apply below_alloc | apply pw_below_drewN | apply below_drew1) | exact HB.out)))); have n1_ := Aside0.mk (below_step (by repeat (first | (with_reducible first | exact HB.out | apply below_alloc | apply pw_below_drewN | apply below_drew1) | exact HB.out)) hb); clear HB; have HO107 := n0_; have HB := n1_; clear n0_ n1_; (try clear hb); (try clear hb2); (try clear hk); (try clear hi); (try clear ho0)) | (go_at_call 15; (with_reducible refine (money_Sum.calls _ _ l1 t108 t109 _ ?side1 ?side2 A7.out (Glob.step G0.out (by repeat (first | (with_reducible first | exact HB.out | apply below_alloc | apply pw_below_drewN | apply below_drew1) | exact HB.out | exact Below.refl _ _)))).mono ?_); (case side1 => repeat (first | exact (Kd.C_below HR1.out HB.out) | (with_reducible refine Kd.C_alloc ?_ _) | (with_reducible refine Kd.C_drewN ?_ _) | (with_reducible refine Kd.C_drew ?_))); (case side2 => exact HC1.out); rintro e w13 ⟨rfl, hb⟩; have n0_ := Aside0.mk (Kd.R_below (by (with_reducible repeat (first | apply Kd.R_alloc | apply Kd.R_drewN | apply Kd.R_drew)); exact HO107.out) hb); have n1_ := Aside0.mk (below_step (by repeat (first | (with_reducible first | exact HB.out | apply below_alloc | apply pw_below_drewN | apply below_drew1) | exact HB.out)) hb); clear HO107; clear HB; have HO107 := n0_; have HB := n1_; clear n0_ n1_; (try clear hb); (try clear hb2); (try clear hk); (try clear hi); obtain ⟨Ao14, co14, eo14⟩ := Kd.R_slice HO107.out; subst eo14) | (go_at_call 15; (with_reducible refine (money_Sum.calls _ _ t104 t110 t111 _ ?side1 ?side2 A9.out (Glob.step G0.out (by repeat (first | (with_reducible first | exact HB.out | apply below_alloc | apply pw_below_drewN | apply below_drew1) | exact HB.out | exact Below.refl _ _)))).mono ?_); (case side1 => repeat (first | exact (Kd.R_reads' HO107.out).2.2 | (with_reducible refine Kd.C_alloc ?_ _) | (with_reducible refine Kd.C_drewN ?_ _) | (with_reducible refine Kd.C_drew ?_))); (case side2 => exact (Kd.R_reads' HO107.out).2.1); rintro e w15 ⟨rfl, hb⟩; have n0_ := Aside0.mk (Kd.R_below (by (with_reducible repeat (first | apply Kd.R_alloc | apply Kd.R_drewN | apply Kd.R_drew)); exact HO107.out) hb); have n1_ := Aside0.mk (below_step (by repeat (first | (with_reducible first | exact HB.out | apply below_alloc | apply pw_below_drewN | apply below_drew1) | exact HB.out)) hb); clear HO107; clear HB; have HO107 := n0_; have HB := n1_; clear n0_ n1_; (try clear hb); (try clear hb2); (try clear hk); (try clear hi)))
      repeat (go_quiet (first | (go_at_call 11; (with_reducible refine (daybooklaw01_first.calls  true _ A4.out (Glob.step G0.out (by repeat (first | (with_reducible first | exact HB.out | apply below_alloc | apply pw_below_drewN | apply below_drew1) | exact HB.out | exact Below.refl _ _)))).mono ?_); rintro e w11 ⟨rfl, hb⟩; have n0_ := Aside0.mk (below_step (by repeat (first | (with_reducible first | exact HB.out | apply below_alloc | apply pw_below_drewN | apply below_drew1) | exact HB.out)) hb); clear HB; have HB := n0_; clear n0_; (try clear hb); (try clear hb2); (try clear hk); (try clear hi)) | (go_at_call 14; (with_reducible refine (money_Split.calls a0 _ _ l1 t104 t105 _ ?side1 ?side2 A6.out (Glob.step G0.out (by repeat (first | (with_reducible first | exact HB.out | apply below_alloc | apply pw_below_drewN | apply below_drew1) | exact HB.out | exact Below.refl _ _)))).mono ?_); (case side1 => repeat (first | exact (Kd.C_below HR1.out HB.out) | (with_reducible refine Kd.C_alloc ?_ _) | (with_reducible refine Kd.C_drewN ?_ _) | (with_reducible refine Kd.C_drew ?_))); (case side2 => exact HC1.out); rintro e w12 ⟨v106, rfl, ho0, hb⟩; have n0_ := Aside0.mk (Kd.R_lower ho0 (below_size (by repeat (first | (with_reducible first | exact HB.out | apply below_alloc | apply pw_below_drewN | apply below_drew1) | exact HB.out)))); have n1_ := Aside0.mk (below_step (by repeat (first | (with_reducible first | exact HB.out | apply below_alloc | apply pw_below_drewN | apply below_drew1) | exact HB.out)) hb); clear HB; have HO107 := n0_; have HB := n1_; clear n0_ n1_; (try clear hb); (try clear hb2); (try clear hk); (try clear hi); (try clear ho0)) | (go_at_call 15; (with_reducible refine (money_Sum.calls _ _ l1 t108 t109 _ ?side1 ?side2 A7.out (Glob.step G0.out (by repeat (first | (with_reducible first | exact HB.out | apply below_alloc | apply pw_below_drewN | apply below_drew1) | exact HB.out | exact Below.refl _ _)))).mono ?_); (case side1 => repeat (first | exact (Kd.C_below HR1.out HB.out) | (with_reducible refine Kd.C_alloc ?_ _) | (with_reducible refine Kd.C_drewN ?_ _) | (with_reducible refine Kd.C_drew ?_))); (case side2 => exact HC1.out); rintro e w13 ⟨rfl, hb⟩; have n0_ := Aside0.mk (Kd.R_below (by (with_reducible repeat (first | apply Kd.R_alloc | apply Kd.R_drewN | apply Kd.R_drew)); exact HO107.out) hb); have n1_ := Aside0.mk (below_step (by repeat (first | (with_reducible first | exact HB.out | apply below_alloc | apply pw_below_drewN | apply below_drew1) | exact HB.out)) hb); clear HO107; clear HB; have HO107 := n0_; have HB := n1_; clear n0_ n1_; (try clear hb); (try clear hb2); (try clear hk); (try clear hi); obtain ⟨Ao14, co14, eo14⟩ := Kd.R_slice HO107.out; subst eo14) | (go_at_call 15; (with_reducible refine (money_Sum.calls _ _ t104 t110 t111 _ ?side1 ?side2 A9.out (Glob.step G0.out (by repeat (first | (with_reducible first | exact HB.out | apply below_alloc | apply pw_below_drewN | apply below_drew1) | exact HB.out | exact Below.refl _ _)))).mono ?_); (case side1 => repeat (first | exact (Kd.R_reads' HO107.out).2.2 | (with_reducible refine Kd.C_alloc ?_ _) | (with_reducible refine Kd.C_drewN ?_ _) | (with_reducible refine Kd.C_drew ?_))); (case side2 => exact (Kd.R_reads' HO107.out).2.1); rintro e w15 ⟨rfl, hb⟩; have n0_ := Aside0.mk (Kd.R_below (by (with_reducible repeat (first | apply Kd.R_alloc | apply Kd.R_drewN | apply Kd.R_drew)); exact HO107.out) hb); have n1_ := Aside0.mk (below_step (by repeat (first | (with_reducible first | exact HB.out | apply below_alloc | apply pw_below_drewN | apply below_drew1) | exact HB.out)) hb); clear HO107; clear HB; have HO107 := n0_; have HB := n1_; clear n0_ n1_; (try clear hb); (try clear hb2); (try clear hk); (try clear hi))); go_upto_region 9 with (first | (go_at_call 11; (with_reducible refine (daybooklaw01_first.calls  true _ A4.out (Glob.step G0.out (by repeat (first | (with_reducible first | exact HB.out | apply below_alloc | apply pw_below_drewN | apply below_drew1) | exact HB.out | exact Below.refl _ _)))).mono ?_); rintro e w11 ⟨rfl, hb⟩; have n0_ := Aside0.mk (below_step (by repeat (first | (with_reducible first | exact HB.out | apply below_alloc | apply pw_below_drewN | apply below_drew1) | exact HB.out)) hb); clear HB; have HB := n0_; clear n0_; (try clear hb); (try clear hb2); (try clear hk); (try clear hi)) | (go_at_call 14; (with_reducible refine (money_Split.calls a0 _ _ l1 t104 t105 _ ?side1 ?side2 A6.out (Glob.step G0.out (by repeat (first | (with_reducible first | exact HB.out | apply below_alloc | apply pw_below_drewN | apply below_drew1) | exact HB.out | exact Below.refl _ _)))).mono ?_); (case side1 => repeat (first | exact (Kd.C_below HR1.out HB.out) | (with_reducible refine Kd.C_alloc ?_ _) | (with_reducible refine Kd.C_drewN ?_ _) | (with_reducible refine Kd.C_drew ?_))); (case side2 => exact HC1.out); rintro e w12 ⟨v106, rfl, ho0, hb⟩; have n0_ := Aside0.mk (Kd.R_lower ho0 (below_size (by repeat (first | (with_reducible first | exact HB.out | apply below_alloc | apply pw_below_drewN | apply below_drew1) | exact HB.out)))); have n1_ := Aside0.mk (below_step (by repeat (first | (with_reducible first | exact HB.out | apply below_alloc | apply pw_below_drewN | apply below_drew1) | exact HB.out)) hb); clear HB; have HO107 := n0_; have HB := n1_; clear n0_ n1_; (try clear hb); (try clear hb2); (try clear hk); (try clear hi); (try clear ho0)) | (go_at_call 15; (with_reducible refine (money_Sum.calls _ _ l1 t108 t109 _ ?side1 ?side2 A7.out (Glob.step G0.out (by repeat (first | (with_reducible first | exact HB.out | apply below_alloc | apply pw_below_drewN | apply below_drew1) | exact HB.out | exact Below.refl _ _)))).mono ?_); (case side1 => repeat (first | exact (Kd.C_below HR1.out HB.out) | (with_reducible refine Kd.C_alloc ?_ _) | (with_reducible refine Kd.C_drewN ?_ _) | (with_reducible refine Kd.C_drew ?_))); (case side2 => exact HC1.out); rintro e w13 ⟨rfl, hb⟩; have n0_ := Aside0.mk (Kd.R_below (by (with_reducible repeat (first | apply Kd.R_alloc | apply Kd.R_drewN | apply Kd.R_drew)); exact HO107.out) hb); have n1_ := Aside0.mk (below_step (by repeat (first | (with_reducible first | exact HB.out | apply below_alloc | apply pw_below_drewN | apply below_drew1) | exact HB.out)) hb); clear HO107; clear HB; have HO107 := n0_; have HB := n1_; clear n0_ n1_; (try clear hb); (try clear hb2); (try clear hk); (try clear hi); obtain ⟨Ao14, co14, eo14⟩ := Kd.R_slice HO107.out; subst eo14) | (go_at_call 15; (with_reducible refine (money_Sum.calls _ _ t104 t110 t111 _ ?side1 ?side2 A9.out (Glob.step G0.out (by repeat (first | (with_reducible first | exact HB.out | apply below_alloc | apply pw_below_drewN | apply below_drew1) | exact HB.out | exact Below.refl _ _)))).mono ?_); (case side1 => repeat (first | exact (Kd.R_reads' HO107.out).2.2 | (with_reducible refine Kd.C_alloc ?_ _) | (with_reducible refine Kd.C_drewN ?_ _) | (with_reducible refine Kd.C_drew ?_))); (case side2 => exact (Kd.R_reads' HO107.out).2.1); rintro e w15 ⟨rfl, hb⟩; have n0_ := Aside0.mk (Kd.R_below (by (with_reducible repeat (first | apply Kd.R_alloc | apply Kd.R_drewN | apply Kd.R_drew)); exact HO107.out) hb); have n1_ := Aside0.mk (below_step (by repeat (first | (with_reducible first | exact HB.out | apply below_alloc | apply pw_below_drewN | apply below_drew1) | exact HB.out)) hb); clear HO107; clear HB; have HO107 := n0_; have HB := n1_; clear n0_ n1_; (try clear hb); (try clear hb2); (try clear hk); (try clear hi))))
      (try simp only [Act.put, List.setIfInBounds_toArray, List.set_cons_zero, List.set_cons_succ])
      go_cut [67] (fun v67 wc => ∃ (kq : Nat) (x67_9 : Bool), v67 = .bool x67_9 ∧ Aside0 (daybooklaw01_MoneyShares.j0 kq a0 l1 a2 t104 t108 x67_9 = some r) ∧ Aside0 (kq ≤ k) ∧ Aside0 (Kd.R (Kd.int .i64) 2 wc w.heap.size (fun _ => True) (.slice Ao14 t104.length co14) t104) ∧ Aside0 (Below w.heap.size w wc))
      case first =>
        have H := HC10.out
        clear HC10
        by_cases c16 : t109 = 0
        · rw [if_pos c16] at H
          have c16b0 : (t109 == 0) = true := beq_iff_eq.mpr c16
          have c16b1 : (t109 != 0) = false := bne_eq_false_iff_eq.mpr c16
          clear c16
          (first | rw [c16b0] | (simp only [i64_w, i32_w]; rw [c16b0]) | skip)
          by_cases c17 : t111 = 0
          · rw [if_pos c17] at H
            have c17b0 : (t111 == 0) = true := beq_iff_eq.mpr c17
            have c17b1 : (t111 != 0) = false := bne_eq_false_iff_eq.mpr c17
            clear c17
            by_cases c18 : t110 = a0
            · rw [if_pos c18] at H
              have c18b0 : (t110 == a0) = true := beq_iff_eq.mpr c18
              have c18b1 : (t110 != a0) = false := bne_eq_false_iff_eq.mpr c18
              clear c18
              have H' := Aside0.mk H
              clear H
              go_wp2
              repeat (go_quiet (fail); try go_wp2)
              go_meet
              case rel => exact ⟨_, (((t104.length : Int) != (l1.length : Int))), (by first | rfl | (simp; done) | (simp [*]; done)), H', ⟨by first | omega | exact Nat.le_refl _⟩, ⟨by (with_reducible repeat (first | apply Kd.R_alloc | apply Kd.R_drewN | apply Kd.R_drew)); exact HO107.out⟩, ⟨by repeat (first | (with_reducible first | exact HB.out | apply below_alloc | apply pw_below_drewN | apply below_drew1) | exact HB.out)⟩⟩
            · rw [if_neg c18] at H
              have c18b0 : (t110 == a0) = false := beq_eq_false_iff_ne.mpr c18
              have c18b1 : (t110 != a0) = true := bne_iff_ne.mpr c18
              have H' := Aside0.mk H
              clear H
              go_wp2
              repeat (go_quiet (fail); try go_wp2)
              go_meet
              case rel => exact ⟨_, (true), (by first | rfl | (simp; done) | (simp [*]; done)), H', ⟨by first | omega | exact Nat.le_refl _⟩, ⟨by (with_reducible repeat (first | apply Kd.R_alloc | apply Kd.R_drewN | apply Kd.R_drew)); exact HO107.out⟩, ⟨by repeat (first | (with_reducible first | exact HB.out | apply below_alloc | apply pw_below_drewN | apply below_drew1) | exact HB.out)⟩⟩
          · rw [if_neg c17] at H
            have c17b0 : (t111 == 0) = false := beq_eq_false_iff_ne.mpr c17
            have c17b1 : (t111 != 0) = true := bne_iff_ne.mpr c17
            have H' := Aside0.mk H
            clear H
            go_wp2
            repeat (go_quiet (fail); try go_wp2)
            go_meet
            case rel => exact ⟨_, (true), (by first | rfl | (simp; done) | (simp [*]; done)), H', ⟨by first | omega | exact Nat.le_refl _⟩, ⟨by (with_reducible repeat (first | apply Kd.R_alloc | apply Kd.R_drewN | apply Kd.R_drew)); exact HO107.out⟩, ⟨by repeat (first | (with_reducible first | exact HB.out | apply below_alloc | apply pw_below_drewN | apply below_drew1) | exact HB.out)⟩⟩
        · rw [if_neg c16] at H
          have c16b0 : (t109 == 0) = false := beq_eq_false_iff_ne.mpr c16
          have c16b1 : (t109 != 0) = true := bne_iff_ne.mpr c16
          (first | rw [c16b0] | (simp only [i64_w, i32_w]; rw [c16b0]) | skip)
          have H' := Aside0.mk H
          clear H
          go_wp2
          repeat (go_quiet (fail); try go_wp2)
          go_meet
          case rel => exact ⟨_, (true), (by first | rfl | (simp; done) | (simp [*]; done)), H', ⟨by first | omega | exact Nat.le_refl _⟩, ⟨by (with_reducible repeat (first | apply Kd.R_alloc | apply Kd.R_drewN | apply Kd.R_drew)); exact HO107.out⟩, ⟨by repeat (first | (with_reducible first | exact HB.out | apply below_alloc | apply pw_below_drewN | apply below_drew1) | exact HB.out)⟩⟩
      case rest =>
        as_aux_lemma =>
          clear HC10
          try clear c1
          try clear p2
          try clear c5
          try clear c8
          try clear c8b0
          try clear c8b1
          try clear c16
          try clear c16b0
          try clear c16b1
          try clear c17
          try clear c17b0
          try clear c17b1
          try clear c18
          try clear c18b0
          try clear c18b1
          obtain ⟨kq, x67_9, rfl, HA, HJ9, HO_8, HB⟩ := hcut
          cases kq with
          | zero => exact absurd HA.out (by simp [daybooklaw01_MoneyShares.j0])
          | succ kj9 =>
            have H := HA.out
            clear HA
            simp only [daybooklaw01_MoneyShares.j0] at H
            by_cases c19 : x67_9 = true
            · subst c19
              have H1 : (some false) = some r := by rw [if_pos rfl] at H; exact H
              clear H
              have H := H1
              clear H1
              obtain rfl := Option.some.inj H
              go_wp2
              repeat (go_quiet (fail); try go_wp2)
              go_ret
              exact ⟨by first | rfl | (simp [errW_none, errW_some] <;> rfl) | (simp [*, errW_none, errW_some] <;> rfl), by repeat (first | (with_reducible first | exact HB.out | apply below_alloc | apply pw_below_drewN | apply below_drew1) | exact HB.out)⟩
            · replace c19 := Bool.eq_false_iff.mpr c19
              subst c19
              have H1 : (daybooklaw01_MoneyShares.l0 kj9 a0 l1 a2 t104 t108 0) = some r := by rw [if_neg (show ¬ (false = true) by decide)] at H; exact H
              clear H
              have H := H1
              clear H1
              have H' := Aside0.mk H
              clear H
              go_wp2
              repeat (go_quiet (fail); try go_wp2)
              go_loopg [14] kj9 (fun kq v14 w' => ∃ (x14_2 : Int), v14 = .int .i64 x14_2 ∧ Aside0 (daybooklaw01_MoneyShares.l0 kq a0 l1 a2 t104 t108 x14_2 = some r) ∧ Aside0 (kq ≤ kj9) ∧ Aside0 (Kd.R (Kd.int .i64) 2 w' w.heap.size (fun _ => True) (.slice Ao14 t104.length co14) t104) ∧ Aside0 (Below w.heap.size w w'))
              case atStart => exact ⟨(0), (by first | rfl | (simp; done) | (simp [*]; done)), H', ⟨Nat.le_refl _⟩, ⟨by (with_reducible repeat (first | apply Kd.R_alloc | apply Kd.R_drewN | apply Kd.R_drew)); exact HO_8.out⟩, ⟨by repeat (first | (with_reducible first | exact HB.out | apply below_alloc | apply pw_below_drewN | apply below_drew1) | exact HB.out)⟩⟩
              case round =>
                as_aux_lemma =>
                  clear H'
                  try clear c1
                  try clear p2
                  try clear c5
                  try clear c8
                  try clear c8b0
                  try clear c8b1
                  try clear c16
                  try clear c16b0
                  try clear c16b1
                  try clear c17
                  try clear c17b0
                  try clear c17b1
                  try clear c18
                  try clear c18b0
                  try clear c18b1
                  try clear c19
                  try clear p2
                  obtain ⟨x14_2, rfl, HA, HK2, HO_8, HB⟩ := hrel
                  cases gk with
                  | zero => exact absurd HA.out (by simp [daybooklaw01_MoneyShares.l0])
                  | succ k2 =>
                    have H := HA.out
                    clear HA
                    simp only [daybooklaw01_MoneyShares.l0] at H
                    by_cases c20 : x14_2 < (l1.length : Int)
                    · rw [if_pos c20] at H
                      have c20b0 : decide (x14_2 < (l1.length : Int)) = true := decide_eq_true c20
                      clear c20
                      by_cases c21 : 0 ≤ x14_2
                      · rw [if_pos c21] at H
                        have c21b0 : decide (0 ≤ x14_2) = true := decide_eq_true c21
                        clear c21
                        replace H := Option.bind_eq_some_iff.mp H
                        obtain ⟨⟨t113, t114⟩, A220, H⟩ := H
                        replace H : ((money_Ratio.f a0 (rd l1 x14_2) t108 1).bind fun bt116 => (if t114 = 0 then (if bt116.2 = 0 then (if x14_2 < (t104.length : Int) then (if (rd t104 x14_2) = t113 then (if (rd l1 x14_2) = 0 then (daybooklaw01_MoneyShares.j2 k2 a0 l1 a2 t104 t108 x14_2 ((rd t104 x14_2) != 0)) else (daybooklaw01_MoneyShares.j2 k2 a0 l1 a2 t104 t108 x14_2 false)) else (if (rd t104 x14_2) = bt116.1 then (if (rd l1 x14_2) = 0 then (daybooklaw01_MoneyShares.j2 k2 a0 l1 a2 t104 t108 x14_2 ((rd t104 x14_2) != 0)) else (daybooklaw01_MoneyShares.j2 k2 a0 l1 a2 t104 t108 x14_2 false)) else (daybooklaw01_MoneyShares.j2 k2 a0 l1 a2 t104 t108 x14_2 true))) else (none)) else (daybooklaw01_MoneyShares.j2 k2 a0 l1 a2 t104 t108 x14_2 true)) else (daybooklaw01_MoneyShares.j2 k2 a0 l1 a2 t104 t108 x14_2 true))) = some r := H
                        have A22 := Aside0.mk A220
                        clear A220
                        replace H := Option.bind_eq_some_iff.mp H
                        obtain ⟨⟨t116, t117⟩, A230, H⟩ := H
                        replace H : (if t114 = 0 then (if t117 = 0 then (if x14_2 < (t104.length : Int) then (if (rd t104 x14_2) = t113 then (if (rd l1 x14_2) = 0 then (daybooklaw01_MoneyShares.j2 k2 a0 l1 a2 t104 t108 x14_2 ((rd t104 x14_2) != 0)) else (daybooklaw01_MoneyShares.j2 k2 a0 l1 a2 t104 t108 x14_2 false)) else (if (rd t104 x14_2) = t116 then (if (rd l1 x14_2) = 0 then (daybooklaw01_MoneyShares.j2 k2 a0 l1 a2 t104 t108 x14_2 ((rd t104 x14_2) != 0)) else (daybooklaw01_MoneyShares.j2 k2 a0 l1 a2 t104 t108 x14_2 false)) else (daybooklaw01_MoneyShares.j2 k2 a0 l1 a2 t104 t108 x14_2 true))) else (none)) else (daybooklaw01_MoneyShares.j2 k2 a0 l1 a2 t104 t108 x14_2 true)) else (daybooklaw01_MoneyShares.j2 k2 a0 l1 a2 t104 t108 x14_2 true)) = some r := H
                        have A23 := Aside0.mk A230
                        clear A230
                        have HC24 := Aside0.mk H
                        clear H
                        have p112 : 0 ≤ (x14_2 : Int) := of_decide_eq_true (by first | (with_reducible assumption) | assumption)
                        have q112 : x14_2 < (l1.length : Int) := of_decide_eq_true (by first | (with_reducible assumption) | assumption)
                        obtain ⟨ad112, e112, hx112_0⟩ := Kd.at_int HR1.out x14_2 p112 q112
                        cases e112
                        replace hx112_0 := (HB.out.cell (World.block_lt_of_cell? w _ hx112_0)).trans hx112_0
                        replace p112 := eq_true p112
                        replace q112 := eq_true q112
                        go_upto_region 16 with (first | (go_at_call 12; (with_reducible refine (money_Ratio.calls a0 (rd l1 x14_2) t108 0 t113 t114 _ A22.out (Glob.step G0.out (by repeat (first | (with_reducible first | exact HB.out | apply below_alloc | apply pw_below_drewN | apply below_drew1) | exact HB.out | exact Below.refl _ _)))).mono ?_); rintro e w25 ⟨rfl, hb⟩; have n0_ := Aside0.mk (Kd.R_below (by (with_reducible repeat (first | apply Kd.R_alloc | apply Kd.R_drewN | apply Kd.R_drew)); exact HO_8.out) hb); have n1_ := Aside0.mk (below_step (by repeat (first | (with_reducible first | exact HB.out | apply below_alloc | apply pw_below_drewN | apply below_drew1) | exact HB.out)) hb); clear HO_8; clear HB; have HO_8 := n0_; have HB := n1_; clear n0_ n1_; (try clear hb); (try clear hb2); (try clear hk); (try clear hi); have p115 : 0 ≤ (x14_2 : Int) := of_decide_eq_true (by first | (with_reducible assumption) | assumption); have q115 : x14_2 < (l1.length : Int) := of_decide_eq_true (by first | (with_reducible assumption) | assumption); obtain ⟨ad115, e115, hx115_0⟩ := Kd.at_int HR1.out x14_2 p115 q115; obtain rfl : ad112 = ad115 := (by injection e115); replace hx115_0 := (HB.out.cell (World.block_lt_of_cell? w _ hx115_0)).trans hx115_0; replace p115 := eq_true p115; replace q115 := eq_true q115) | (go_at_call 12; (with_reducible refine (money_Ratio.calls a0 (rd l1 x14_2) t108 1 t116 t117 _ A23.out (Glob.step G0.out (by repeat (first | (with_reducible first | exact HB.out | apply below_alloc | apply pw_below_drewN | apply below_drew1) | exact HB.out | exact Below.refl _ _)))).mono ?_); rintro e w26 ⟨rfl, hb⟩; have n0_ := Aside0.mk (Kd.R_below (by (with_reducible repeat (first | apply Kd.R_alloc | apply Kd.R_drewN | apply Kd.R_drew)); exact HO_8.out) hb); have n1_ := Aside0.mk (below_step (by repeat (first | (with_reducible first | exact HB.out | apply below_alloc | apply pw_below_drewN | apply below_drew1) | exact HB.out)) hb); clear HO_8; clear HB; have HO_8 := n0_; have HB := n1_; clear n0_ n1_; (try clear hb); (try clear hb2); (try clear hk); (try clear hi)))
                        repeat (go_quiet (first | (go_at_call 12; (with_reducible refine (money_Ratio.calls a0 (rd l1 x14_2) t108 0 t113 t114 _ A22.out (Glob.step G0.out (by repeat (first | (with_reducible first | exact HB.out | apply below_alloc | apply pw_below_drewN | apply below_drew1) | exact HB.out | exact Below.refl _ _)))).mono ?_); rintro e w25 ⟨rfl, hb⟩; have n0_ := Aside0.mk (Kd.R_below (by (with_reducible repeat (first | apply Kd.R_alloc | apply Kd.R_drewN | apply Kd.R_drew)); exact HO_8.out) hb); have n1_ := Aside0.mk (below_step (by repeat (first | (with_reducible first | exact HB.out | apply below_alloc | apply pw_below_drewN | apply below_drew1) | exact HB.out)) hb); clear HO_8; clear HB; have HO_8 := n0_; have HB := n1_; clear n0_ n1_; (try clear hb); (try clear hb2); (try clear hk); (try clear hi); have p115 : 0 ≤ (x14_2 : Int) := of_decide_eq_true (by first | (with_reducible assumption) | assumption); have q115 : x14_2 < (l1.length : Int) := of_decide_eq_true (by first | (with_reducible assumption) | assumption); obtain ⟨ad115, e115, hx115_0⟩ := Kd.at_int HR1.out x14_2 p115 q115; obtain rfl : ad112 = ad115 := (by injection e115); replace hx115_0 := (HB.out.cell (World.block_lt_of_cell? w _ hx115_0)).trans hx115_0; replace p115 := eq_true p115; replace q115 := eq_true q115) | (go_at_call 12; (with_reducible refine (money_Ratio.calls a0 (rd l1 x14_2) t108 1 t116 t117 _ A23.out (Glob.step G0.out (by repeat (first | (with_reducible first | exact HB.out | apply below_alloc | apply pw_below_drewN | apply below_drew1) | exact HB.out | exact Below.refl _ _)))).mono ?_); rintro e w26 ⟨rfl, hb⟩; have n0_ := Aside0.mk (Kd.R_below (by (with_reducible repeat (first | apply Kd.R_alloc | apply Kd.R_drewN | apply Kd.R_drew)); exact HO_8.out) hb); have n1_ := Aside0.mk (below_step (by repeat (first | (with_reducible first | exact HB.out | apply below_alloc | apply pw_below_drewN | apply below_drew1) | exact HB.out)) hb); clear HO_8; clear HB; have HO_8 := n0_; have HB := n1_; clear n0_ n1_; (try clear hb); (try clear hb2); (try clear hk); (try clear hi))); go_upto_region 16 with (first | (go_at_call 12; (with_reducible refine (money_Ratio.calls a0 (rd l1 x14_2) t108 0 t113 t114 _ A22.out (Glob.step G0.out (by repeat (first | (with_reducible first | exact HB.out | apply below_alloc | apply pw_below_drewN | apply below_drew1) | exact HB.out | exact Below.refl _ _)))).mono ?_); rintro e w25 ⟨rfl, hb⟩; have n0_ := Aside0.mk (Kd.R_below (by (with_reducible repeat (first | apply Kd.R_alloc | apply Kd.R_drewN | apply Kd.R_drew)); exact HO_8.out) hb); have n1_ := Aside0.mk (below_step (by repeat (first | (with_reducible first | exact HB.out | apply below_alloc | apply pw_below_drewN | apply below_drew1) | exact HB.out)) hb); clear HO_8; clear HB; have HO_8 := n0_; have HB := n1_; clear n0_ n1_; (try clear hb); (try clear hb2); (try clear hk); (try clear hi); have p115 : 0 ≤ (x14_2 : Int) := of_decide_eq_true (by first | (with_reducible assumption) | assumption); have q115 : x14_2 < (l1.length : Int) := of_decide_eq_true (by first | (with_reducible assumption) | assumption); obtain ⟨ad115, e115, hx115_0⟩ := Kd.at_int HR1.out x14_2 p115 q115; obtain rfl : ad112 = ad115 := (by injection e115); replace hx115_0 := (HB.out.cell (World.block_lt_of_cell? w _ hx115_0)).trans hx115_0; replace p115 := eq_true p115; replace q115 := eq_true q115) | (go_at_call 12; (with_reducible refine (money_Ratio.calls a0 (rd l1 x14_2) t108 1 t116 t117 _ A23.out (Glob.step G0.out (by repeat (first | (with_reducible first | exact HB.out | apply below_alloc | apply pw_below_drewN | apply below_drew1) | exact HB.out | exact Below.refl _ _)))).mono ?_); rintro e w26 ⟨rfl, hb⟩; have n0_ := Aside0.mk (Kd.R_below (by (with_reducible repeat (first | apply Kd.R_alloc | apply Kd.R_drewN | apply Kd.R_drew)); exact HO_8.out) hb); have n1_ := Aside0.mk (below_step (by repeat (first | (with_reducible first | exact HB.out | apply below_alloc | apply pw_below_drewN | apply below_drew1) | exact HB.out)) hb); clear HO_8; clear HB; have HO_8 := n0_; have HB := n1_; clear n0_ n1_; (try clear hb); (try clear hb2); (try clear hk); (try clear hi))))
                        (try simp only [Act.put, List.setIfInBounds_toArray, List.set_cons_zero, List.set_cons_succ])
                        go_cut [129] (fun v129 wc => ∃ (kq : Nat) (x129_23 : Bool), v129 = .bool x129_23 ∧ Aside0 (daybooklaw01_MoneyShares.j2 kq a0 l1 a2 t104 t108 x14_2 x129_23 = some r) ∧ Aside0 (kq ≤ k2) ∧ Aside0 (Kd.R (Kd.int .i64) 2 wc w.heap.size (fun _ => True) (.slice Ao14 t104.length co14) t104) ∧ Aside0 (Below w.heap.size w wc))
                        case first =>
                          have H := HC24.out
                          clear HC24
                          by_cases c27 : t114 = 0
                          · rw [if_pos c27] at H
                            have c27b0 : (t114 == 0) = true := beq_iff_eq.mpr c27
                            have c27b1 : (t114 != 0) = false := bne_eq_false_iff_eq.mpr c27
                            clear c27
                            (first | rw [c27b0] | (simp only [i64_w, i32_w]; rw [c27b0]) | skip)
                            by_cases c28 : t117 = 0
                            · rw [if_pos c28] at H
                              have c28b0 : (t117 == 0) = true := beq_iff_eq.mpr c28
                              have c28b1 : (t117 != 0) = false := bne_eq_false_iff_eq.mpr c28
                              clear c28
                              by_cases c29 : x14_2 < (t104.length : Int)
                              · rw [if_pos c29] at H
                                have c29b0 : decide (x14_2 < (t104.length : Int)) = true := decide_eq_true c29
                                clear c29
                                by_cases c30 : (rd t104 x14_2) = t113
                                · rw [if_pos c30] at H
                                  have c30b0 : ((rd t104 x14_2) == t113) = true := beq_iff_eq.mpr c30
                                  have c30b1 : ((rd t104 x14_2) != t113) = false := bne_eq_false_iff_eq.mpr c30
                                  clear c30
                                  by_cases c31 : (rd l1 x14_2) = 0
                                  · rw [if_pos c31] at H
                                    have c31b0 : ((rd l1 x14_2) == 0) = true := beq_iff_eq.mpr c31
                                    have c31b1 : ((rd l1 x14_2) != 0) = false := bne_eq_false_iff_eq.mpr c31
                                    clear c31
                                    have H' := Aside0.mk H
                                    clear H
                                    have p118 : 0 ≤ (x14_2 : Int) := of_decide_eq_true (by first | (with_reducible assumption) | assumption)
                                    have q118 : x14_2 < (t104.length : Int) := of_decide_eq_true (by first | (with_reducible assumption) | assumption)
                                    obtain ⟨ad118, e118, hx118_0⟩ := Kd.at_int (Kd.R_reads' HO_8.out).2.2 x14_2 p118 q118
                                    cases e118
                                    replace p118 := eq_true p118
                                    replace q118 := eq_true q118
                                    have p119 : 0 ≤ (x14_2 : Int) := of_decide_eq_true (by first | (with_reducible assumption) | assumption)
                                    have q119 : x14_2 < (l1.length : Int) := of_decide_eq_true (by first | (with_reducible assumption) | assumption)
                                    obtain ⟨ad119, e119, hx119_0⟩ := Kd.at_int HR1.out x14_2 p119 q119
                                    obtain rfl : ad112 = ad119 := (by injection e119)
                                    replace hx119_0 := (HB.out.cell (World.block_lt_of_cell? w _ hx119_0)).trans hx119_0
                                    replace p119 := eq_true p119
                                    replace q119 := eq_true q119
                                    have p120 : 0 ≤ (x14_2 : Int) := of_decide_eq_true (by first | (with_reducible assumption) | assumption)
                                    have q120 : x14_2 < (t104.length : Int) := of_decide_eq_true (by first | (with_reducible assumption) | assumption)
                                    obtain ⟨ad120, e120, hx120_0⟩ := Kd.at_int (Kd.R_reads' HO_8.out).2.2 x14_2 p120 q120
                                    obtain rfl : ad118 = ad120 := (by injection e120)
                                    replace p120 := eq_true p120
                                    replace q120 := eq_true q120
                                    go_wp2
                                    repeat (go_quiet (fail); try go_wp2)
                                    go_meet
                                    case rel => exact ⟨_, (((rd t104 x14_2) != 0)), (by first | rfl | (simp; done) | (simp [*]; done)), H', ⟨by have := HJ9.out; have := HK2.out; first | omega | exact Nat.le_refl _⟩, ⟨by (with_reducible repeat (first | apply Kd.R_alloc | apply Kd.R_drewN | apply Kd.R_drew)); exact HO_8.out⟩, ⟨by repeat (first | (with_reducible first | exact HB.out | apply below_alloc | apply pw_below_drewN | apply below_drew1) | exact HB.out)⟩⟩
                                  · rw [if_neg c31] at H
                                    have c31b0 : ((rd l1 x14_2) == 0) = false := beq_eq_false_iff_ne.mpr c31
                                    have c31b1 : ((rd l1 x14_2) != 0) = true := bne_iff_ne.mpr c31
                                    have H' := Aside0.mk H
                                    clear H
                                    have p118 : 0 ≤ (x14_2 : Int) := of_decide_eq_true (by first | (with_reducible assumption) | assumption)
                                    have q118 : x14_2 < (t104.length : Int) := of_decide_eq_true (by first | (with_reducible assumption) | assumption)
                                    obtain ⟨ad118, e118, hx118_0⟩ := Kd.at_int (Kd.R_reads' HO_8.out).2.2 x14_2 p118 q118
                                    cases e118
                                    replace p118 := eq_true p118
                                    replace q118 := eq_true q118
                                    have p119 : 0 ≤ (x14_2 : Int) := of_decide_eq_true (by first | (with_reducible assumption) | assumption)
                                    have q119 : x14_2 < (l1.length : Int) := of_decide_eq_true (by first | (with_reducible assumption) | assumption)
                                    obtain ⟨ad119, e119, hx119_0⟩ := Kd.at_int HR1.out x14_2 p119 q119
                                    obtain rfl : ad112 = ad119 := (by injection e119)
                                    replace hx119_0 := (HB.out.cell (World.block_lt_of_cell? w _ hx119_0)).trans hx119_0
                                    replace p119 := eq_true p119
                                    replace q119 := eq_true q119
                                    go_wp2
                                    repeat (go_quiet (fail); try go_wp2)
                                    go_meet
                                    case rel => exact ⟨_, (false), (by first | rfl | (simp; done) | (simp [*]; done)), H', ⟨by have := HJ9.out; have := HK2.out; first | omega | exact Nat.le_refl _⟩, ⟨by (with_reducible repeat (first | apply Kd.R_alloc | apply Kd.R_drewN | apply Kd.R_drew)); exact HO_8.out⟩, ⟨by repeat (first | (with_reducible first | exact HB.out | apply below_alloc | apply pw_below_drewN | apply below_drew1) | exact HB.out)⟩⟩
                                · rw [if_neg c30] at H
                                  have c30b0 : ((rd t104 x14_2) == t113) = false := beq_eq_false_iff_ne.mpr c30
                                  have c30b1 : ((rd t104 x14_2) != t113) = true := bne_iff_ne.mpr c30
                                  by_cases c32 : (rd t104 x14_2) = t116
                                  · rw [if_pos c32] at H
                                    have c32b0 : ((rd t104 x14_2) == t116) = true := beq_iff_eq.mpr c32
                                    have c32b1 : ((rd t104 x14_2) != t116) = false := bne_eq_false_iff_eq.mpr c32
                                    clear c32
                                    by_cases c33 : (rd l1 x14_2) = 0
                                    · rw [if_pos c33] at H
                                      have c33b0 : ((rd l1 x14_2) == 0) = true := beq_iff_eq.mpr c33
                                      have c33b1 : ((rd l1 x14_2) != 0) = false := bne_eq_false_iff_eq.mpr c33
                                      clear c33
                                      have H' := Aside0.mk H
                                      clear H
                                      have p118 : 0 ≤ (x14_2 : Int) := of_decide_eq_true (by first | (with_reducible assumption) | assumption)
                                      have q118 : x14_2 < (t104.length : Int) := of_decide_eq_true (by first | (with_reducible assumption) | assumption)
                                      obtain ⟨ad118, e118, hx118_0⟩ := Kd.at_int (Kd.R_reads' HO_8.out).2.2 x14_2 p118 q118
                                      cases e118
                                      replace p118 := eq_true p118
                                      replace q118 := eq_true q118
                                      have p121 : 0 ≤ (x14_2 : Int) := of_decide_eq_true (by first | (with_reducible assumption) | assumption)
                                      have q121 : x14_2 < (t104.length : Int) := of_decide_eq_true (by first | (with_reducible assumption) | assumption)
                                      obtain ⟨ad121, e121, hx121_0⟩ := Kd.at_int (Kd.R_reads' HO_8.out).2.2 x14_2 p121 q121
                                      obtain rfl : ad118 = ad121 := (by injection e121)
                                      replace p121 := eq_true p121
                                      replace q121 := eq_true q121
                                      have p122 : 0 ≤ (x14_2 : Int) := of_decide_eq_true (by first | (with_reducible assumption) | assumption)
                                      have q122 : x14_2 < (l1.length : Int) := of_decide_eq_true (by first | (with_reducible assumption) | assumption)
                                      obtain ⟨ad122, e122, hx122_0⟩ := Kd.at_int HR1.out x14_2 p122 q122
                                      obtain rfl : ad112 = ad122 := (by injection e122)
                                      replace hx122_0 := (HB.out.cell (World.block_lt_of_cell? w _ hx122_0)).trans hx122_0
                                      replace p122 := eq_true p122
                                      replace q122 := eq_true q122
                                      have p123 : 0 ≤ (x14_2 : Int) := of_decide_eq_true (by first | (with_reducible assumption) | assumption)
                                      have q123 : x14_2 < (t104.length : Int) := of_decide_eq_true (by first | (with_reducible assumption) | assumption)
                                      obtain ⟨ad123, e123, hx123_0⟩ := Kd.at_int (Kd.R_reads' HO_8.out).2.2 x14_2 p123 q123
                                      obtain rfl : ad118 = ad123 := (by injection e123)
                                      replace p123 := eq_true p123
                                      replace q123 := eq_true q123
                                      go_wp2
                                      repeat (go_quiet (fail); try go_wp2)
                                      go_meet
                                      case rel => exact ⟨_, (((rd t104 x14_2) != 0)), (by first | rfl | (simp; done) | (simp [*]; done)), H', ⟨by have := HJ9.out; have := HK2.out; first | omega | exact Nat.le_refl _⟩, ⟨by (with_reducible repeat (first | apply Kd.R_alloc | apply Kd.R_drewN | apply Kd.R_drew)); exact HO_8.out⟩, ⟨by repeat (first | (with_reducible first | exact HB.out | apply below_alloc | apply pw_below_drewN | apply below_drew1) | exact HB.out)⟩⟩
                                    · rw [if_neg c33] at H
                                      have c33b0 : ((rd l1 x14_2) == 0) = false := beq_eq_false_iff_ne.mpr c33
                                      have c33b1 : ((rd l1 x14_2) != 0) = true := bne_iff_ne.mpr c33
                                      have H' := Aside0.mk H
                                      clear H
                                      have p118 : 0 ≤ (x14_2 : Int) := of_decide_eq_true (by first | (with_reducible assumption) | assumption)
                                      have q118 : x14_2 < (t104.length : Int) := of_decide_eq_true (by first | (with_reducible assumption) | assumption)
                                      obtain ⟨ad118, e118, hx118_0⟩ := Kd.at_int (Kd.R_reads' HO_8.out).2.2 x14_2 p118 q118
                                      cases e118
                                      replace p118 := eq_true p118
                                      replace q118 := eq_true q118
                                      have p121 : 0 ≤ (x14_2 : Int) := of_decide_eq_true (by first | (with_reducible assumption) | assumption)
                                      have q121 : x14_2 < (t104.length : Int) := of_decide_eq_true (by first | (with_reducible assumption) | assumption)
                                      obtain ⟨ad121, e121, hx121_0⟩ := Kd.at_int (Kd.R_reads' HO_8.out).2.2 x14_2 p121 q121
                                      obtain rfl : ad118 = ad121 := (by injection e121)
                                      replace p121 := eq_true p121
                                      replace q121 := eq_true q121
                                      have p122 : 0 ≤ (x14_2 : Int) := of_decide_eq_true (by first | (with_reducible assumption) | assumption)
                                      have q122 : x14_2 < (l1.length : Int) := of_decide_eq_true (by first | (with_reducible assumption) | assumption)
                                      obtain ⟨ad122, e122, hx122_0⟩ := Kd.at_int HR1.out x14_2 p122 q122
                                      obtain rfl : ad112 = ad122 := (by injection e122)
                                      replace hx122_0 := (HB.out.cell (World.block_lt_of_cell? w _ hx122_0)).trans hx122_0
                                      replace p122 := eq_true p122
                                      replace q122 := eq_true q122
                                      go_wp2
                                      repeat (go_quiet (fail); try go_wp2)
                                      go_meet
                                      case rel => exact ⟨_, (false), (by first | rfl | (simp; done) | (simp [*]; done)), H', ⟨by have := HJ9.out; have := HK2.out; first | omega | exact Nat.le_refl _⟩, ⟨by (with_reducible repeat (first | apply Kd.R_alloc | apply Kd.R_drewN | apply Kd.R_drew)); exact HO_8.out⟩, ⟨by repeat (first | (with_reducible first | exact HB.out | apply below_alloc | apply pw_below_drewN | apply below_drew1) | exact HB.out)⟩⟩
                                  · rw [if_neg c32] at H
                                    have c32b0 : ((rd t104 x14_2) == t116) = false := beq_eq_false_iff_ne.mpr c32
                                    have c32b1 : ((rd t104 x14_2) != t116) = true := bne_iff_ne.mpr c32
                                    have H' := Aside0.mk H
                                    clear H
                                    have p118 : 0 ≤ (x14_2 : Int) := of_decide_eq_true (by first | (with_reducible assumption) | assumption)
                                    have q118 : x14_2 < (t104.length : Int) := of_decide_eq_true (by first | (with_reducible assumption) | assumption)
                                    obtain ⟨ad118, e118, hx118_0⟩ := Kd.at_int (Kd.R_reads' HO_8.out).2.2 x14_2 p118 q118
                                    cases e118
                                    replace p118 := eq_true p118
                                    replace q118 := eq_true q118
                                    have p121 : 0 ≤ (x14_2 : Int) := of_decide_eq_true (by first | (with_reducible assumption) | assumption)
                                    have q121 : x14_2 < (t104.length : Int) := of_decide_eq_true (by first | (with_reducible assumption) | assumption)
                                    obtain ⟨ad121, e121, hx121_0⟩ := Kd.at_int (Kd.R_reads' HO_8.out).2.2 x14_2 p121 q121
                                    obtain rfl : ad118 = ad121 := (by injection e121)
                                    replace p121 := eq_true p121
                                    replace q121 := eq_true q121
                                    go_wp2
                                    repeat (go_quiet (fail); try go_wp2)
                                    go_meet
                                    case rel => exact ⟨_, (true), (by first | rfl | (simp; done) | (simp [*]; done)), H', ⟨by have := HJ9.out; have := HK2.out; first | omega | exact Nat.le_refl _⟩, ⟨by (with_reducible repeat (first | apply Kd.R_alloc | apply Kd.R_drewN | apply Kd.R_drew)); exact HO_8.out⟩, ⟨by repeat (first | (with_reducible first | exact HB.out | apply below_alloc | apply pw_below_drewN | apply below_drew1) | exact HB.out)⟩⟩
                              · rw [if_neg c29] at H
                                exact absurd H (by simp)
                            · rw [if_neg c28] at H
                              have c28b0 : (t117 == 0) = false := beq_eq_false_iff_ne.mpr c28
                              have c28b1 : (t117 != 0) = true := bne_iff_ne.mpr c28
                              have H' := Aside0.mk H
                              clear H
                              go_wp2
                              repeat (go_quiet (fail); try go_wp2)
                              go_meet
                              case rel => exact ⟨_, (true), (by first | rfl | (simp; done) | (simp [*]; done)), H', ⟨by have := HJ9.out; have := HK2.out; first | omega | exact Nat.le_refl _⟩, ⟨by (with_reducible repeat (first | apply Kd.R_alloc | apply Kd.R_drewN | apply Kd.R_drew)); exact HO_8.out⟩, ⟨by repeat (first | (with_reducible first | exact HB.out | apply below_alloc | apply pw_below_drewN | apply below_drew1) | exact HB.out)⟩⟩
                          · rw [if_neg c27] at H
                            have c27b0 : (t114 == 0) = false := beq_eq_false_iff_ne.mpr c27
                            have c27b1 : (t114 != 0) = true := bne_iff_ne.mpr c27
                            (first | rw [c27b0] | (simp only [i64_w, i32_w]; rw [c27b0]) | skip)
                            have H' := Aside0.mk H
                            clear H
                            go_wp2
                            repeat (go_quiet (fail); try go_wp2)
                            go_meet
                            case rel => exact ⟨_, (true), (by first | rfl | (simp; done) | (simp [*]; done)), H', ⟨by have := HJ9.out; have := HK2.out; first | omega | exact Nat.le_refl _⟩, ⟨by (with_reducible repeat (first | apply Kd.R_alloc | apply Kd.R_drewN | apply Kd.R_drew)); exact HO_8.out⟩, ⟨by repeat (first | (with_reducible first | exact HB.out | apply below_alloc | apply pw_below_drewN | apply below_drew1) | exact HB.out)⟩⟩
                        case rest =>
                          as_aux_lemma =>
                            clear HC24
                            try clear c1
                            try clear p1
                            try clear q1
                            try clear hx1
                            try clear c2
                            try clear p2
                            try clear c3
                            try clear c5
                            try clear c8
                            try clear c8b0
                            try clear c8b1
                            try clear p11
                            try clear q11
                            try clear hx11
                            try clear p12
                            try clear q12
                            try clear hx12
                            try clear c16
                            try clear c16b0
                            try clear c16b1
                            try clear c17
                            try clear c17b0
                            try clear c17b1
                            try clear c18
                            try clear c18b0
                            try clear c18b1
                            try clear c19
                            try clear c20
                            try clear c20b0
                            try clear c21
                            try clear c21b0
                            try clear c27
                            try clear c27b0
                            try clear c27b1
                            try clear c28
                            try clear c28b0
                            try clear c28b1
                            try clear c29
                            try clear c29b0
                            try clear c30
                            try clear c30b0
                            try clear c30b1
                            try clear c31
                            try clear c31b0
                            try clear c31b1
                            try clear c32
                            try clear c32b0
                            try clear c32b1
                            try clear c33
                            try clear c33b0
                            try clear c33b1
                            try clear hx112_0
                            try clear hx115_0
                            try clear hx118_0
                            try clear hx119_0
                            try clear hx120_0
                            try clear hx121_0
                            try clear hx122_0
                            try clear hx123_0
                            try clear p112
                            try clear p115
                            try clear p118
                            try clear p119
                            try clear p120
                            try clear p121
                            try clear p122
                            try clear p123
                            try clear p2
                            try clear q112
                            try clear q115
                            try clear q118
                            try clear q119
                            try clear q120
                            try clear q121
                            try clear q122
                            try clear q123
                            obtain ⟨kq, x129_23, rfl, HA, HJ23, HO_8, HB⟩ := hcut
                            cases kq with
                            | zero => exact absurd HA.out (by simp [daybooklaw01_MoneyShares.j2])
                            | succ kj23 =>
                              have H := HA.out
                              clear HA
                              simp only [daybooklaw01_MoneyShares.j2] at H
                              by_cases c34 : x129_23 = true
                              · subst c34
                                have H1 : (some false) = some r := by rw [if_pos rfl] at H; exact H
                                clear H
                                have H := H1
                                clear H1
                                obtain rfl := Option.some.inj H
                                go_wp2
                                repeat (go_quiet (fail); try go_wp2)
                                go_ret
                                exact ⟨by first | rfl | (simp [errW_none, errW_some] <;> rfl) | (simp [*, errW_none, errW_some] <;> rfl), by repeat (first | (with_reducible first | exact HB.out | apply below_alloc | apply pw_below_drewN | apply below_drew1) | exact HB.out)⟩
                              · replace c34 := Bool.eq_false_iff.mpr c34
                                subst c34
                                have H1 : (daybooklaw01_MoneyShares.l1 kj23 a0 l1 a2 t104 t108 x14_2 0) = some r := by rw [if_neg (show ¬ (false = true) by decide)] at H; exact H
                                clear H
                                have H := H1
                                clear H1
                                have H' := Aside0.mk H
                                clear H
                                go_wp2
                                repeat (go_quiet (fail); try go_wp2)
                                go_loopg [19] kj23 (fun kq v19 w' => ∃ (x19_4 : Int), v19 = .int .i64 x19_4 ∧ Aside0 (daybooklaw01_MoneyShares.l1 kq a0 l1 a2 t104 t108 x14_2 x19_4 = some r) ∧ Aside0 (kq ≤ kj23) ∧ Aside0 (Kd.R (Kd.int .i64) 2 w' w.heap.size (fun _ => True) (.slice Ao14 t104.length co14) t104) ∧ Aside0 (Below w.heap.size w w'))
                                case atStart => exact ⟨(0), (by first | rfl | (simp; done) | (simp [*]; done)), H', ⟨Nat.le_refl _⟩, ⟨by (with_reducible repeat (first | apply Kd.R_alloc | apply Kd.R_drewN | apply Kd.R_drew)); exact HO_8.out⟩, ⟨by repeat (first | (with_reducible first | exact HB.out | apply below_alloc | apply pw_below_drewN | apply below_drew1) | exact HB.out)⟩⟩
                                case round =>
                                  as_aux_lemma =>
                                    clear H'
                                    try clear c1
                                    try clear p1
                                    try clear q1
                                    try clear hx1
                                    try clear c2
                                    try clear p2
                                    try clear c3
                                    try clear c5
                                    try clear c8
                                    try clear c8b0
                                    try clear c8b1
                                    try clear p11
                                    try clear q11
                                    try clear hx11
                                    try clear p12
                                    try clear q12
                                    try clear hx12
                                    try clear c16
                                    try clear c16b0
                                    try clear c16b1
                                    try clear c17
                                    try clear c17b0
                                    try clear c17b1
                                    try clear c18
                                    try clear c18b0
                                    try clear c18b1
                                    try clear c19
                                    try clear c20
                                    try clear c20b0
                                    try clear c21
                                    try clear c21b0
                                    try clear c27
                                    try clear c27b0
                                    try clear c27b1
                                    try clear c28
                                    try clear c28b0
                                    try clear c28b1
                                    try clear c29
                                    try clear c29b0
                                    try clear c30
                                    try clear c30b0
                                    try clear c30b1
                                    try clear c31
                                    try clear c31b0
                                    try clear c31b1
                                    try clear c32
                                    try clear c32b0
                                    try clear c32b1
                                    try clear c33
                                    try clear c33b0
                                    try clear c33b1
                                    try clear c34
                                    try clear hx112_0
                                    try clear hx115_0
                                    try clear hx118_0
                                    try clear hx119_0
                                    try clear hx120_0
                                    try clear hx121_0
                                    try clear hx122_0
                                    try clear hx123_0
                                    try clear p1
                                    try clear p11
                                    try clear p112
                                    try clear p115
                                    try clear p118
                                    try clear p119
                                    try clear p12
                                    try clear p120
                                    try clear p121
                                    try clear p122
                                    try clear p123
                                    try clear p2
                                    try clear q1
                                    try clear q11
                                    try clear q112
                                    try clear q115
                                    try clear q118
                                    try clear q119
                                    try clear q12
                                    try clear q120
                                    try clear q121
                                    try clear q122
                                    try clear q123
                                    obtain ⟨x19_4, rfl, HA, HK4, HO_8, HB⟩ := hrel
                                    cases gk with
                                    | zero => exact absurd HA.out (by simp [daybooklaw01_MoneyShares.l1])
                                    | succ k4 =>
                                      have H := HA.out
                                      clear HA
                                      simp only [daybooklaw01_MoneyShares.l1] at H
                                      have HC35 := Aside0.mk H
                                      clear H
                                      go_upto_region 19 with (fail)
                                      repeat (go_quiet (fail); go_upto_region 19 with (fail))
                                      go_cut [136] (fun v136 wc => ∃ (kq : Nat) (x136_34 : Bool), v136 = .bool x136_34 ∧ Aside0 (daybooklaw01_MoneyShares.j4 kq a0 l1 a2 t104 t108 x14_2 x19_4 x136_34 = some r) ∧ Aside0 (kq ≤ k4) ∧ Aside0 (Kd.R (Kd.int .i64) 2 wc w.heap.size (fun _ => True) (.slice Ao14 t104.length co14) t104) ∧ Aside0 (Below w.heap.size w wc))
                                      case first =>
                                        have H := HC35.out
                                        clear HC35
                                        by_cases c36 : x19_4 < x14_2
                                        · rw [if_pos c36] at H
                                          have c36b0 : decide (x19_4 < x14_2) = true := decide_eq_true c36
                                          clear c36
                                          (first | rw [c36b0] | (simp only [i64_w, i32_w]; rw [c36b0]) | skip)
                                          have H' := Aside0.mk H
                                          clear H
                                          go_wp2
                                          repeat (go_quiet (fail); try go_wp2)
                                          go_meet
                                          case rel => exact ⟨_, (decide (a0 ≥ 0)), (by first | rfl | (simp; done) | (simp [*]; done)), H', ⟨by have := HJ9.out; have := HK2.out; have := HJ23.out; have := HK4.out; first | omega | exact Nat.le_refl _⟩, ⟨by (with_reducible repeat (first | apply Kd.R_alloc | apply Kd.R_drewN | apply Kd.R_drew)); exact HO_8.out⟩, ⟨by repeat (first | (with_reducible first | exact HB.out | apply below_alloc | apply pw_below_drewN | apply below_drew1) | exact HB.out)⟩⟩
                                        · rw [if_neg c36] at H
                                          have c36b0 : decide (x19_4 < x14_2) = false := decide_eq_false c36
                                          clear c36
                                          (first | rw [c36b0] | (simp only [i64_w, i32_w]; rw [c36b0]) | skip)
                                          have H' := Aside0.mk H
                                          clear H
                                          go_wp2
                                          repeat (go_quiet (fail); try go_wp2)
                                          go_meet
                                          case rel => exact ⟨_, (false), (by first | rfl | (simp; done) | (simp [*]; done)), H', ⟨by have := HJ9.out; have := HK2.out; have := HJ23.out; have := HK4.out; first | omega | exact Nat.le_refl _⟩, ⟨by (with_reducible repeat (first | apply Kd.R_alloc | apply Kd.R_drewN | apply Kd.R_drew)); exact HO_8.out⟩, ⟨by repeat (first | (with_reducible first | exact HB.out | apply below_alloc | apply pw_below_drewN | apply below_drew1) | exact HB.out)⟩⟩
                                      case rest =>
                                        as_aux_lemma =>
                                          clear HC35
                                          try clear c1
                                          try clear p1
                                          try clear q1
                                          try clear hx1
                                          try clear c2
                                          try clear p2
                                          try clear c3
                                          try clear c5
                                          try clear c8
                                          try clear c8b0
                                          try clear c8b1
                                          try clear p11
                                          try clear q11
                                          try clear hx11
                                          try clear p12
                                          try clear q12
                                          try clear hx12
                                          try clear c16
                                          try clear c16b0
                                          try clear c16b1
                                          try clear c17
                                          try clear c17b0
                                          try clear c17b1
                                          try clear c18
                                          try clear c18b0
                                          try clear c18b1
                                          try clear c19
                                          try clear c20
                                          try clear c20b0
                                          try clear c21
                                          try clear c21b0
                                          try clear c27
                                          try clear c27b0
                                          try clear c27b1
                                          try clear c28
                                          try clear c28b0
                                          try clear c28b1
                                          try clear c29
                                          try clear c29b0
                                          try clear c30
                                          try clear c30b0
                                          try clear c30b1
                                          try clear c31
                                          try clear c31b0
                                          try clear c31b1
                                          try clear c32
                                          try clear c32b0
                                          try clear c32b1
                                          try clear c33
                                          try clear c33b0
                                          try clear c33b1
                                          try clear c34
                                          try clear c36
                                          try clear c36b0
                                          try clear hx112_0
                                          try clear hx115_0
                                          try clear hx118_0
                                          try clear hx119_0
                                          try clear hx120_0
                                          try clear hx121_0
                                          try clear hx122_0
                                          try clear hx123_0
                                          try clear p1
                                          try clear p11
                                          try clear p112
                                          try clear p115
                                          try clear p118
                                          try clear p119
                                          try clear p12
                                          try clear p120
                                          try clear p121
                                          try clear p122
                                          try clear p123
                                          try clear p2
                                          try clear q1
                                          try clear q11
                                          try clear q112
                                          try clear q115
                                          try clear q118
                                          try clear q119
                                          try clear q12
                                          try clear q120
                                          try clear q121
                                          try clear q122
                                          try clear q123
                                          obtain ⟨kq, x136_34, rfl, HA, HJ34, HO_8, HB⟩ := hcut
                                          cases kq with
                                          | zero => exact absurd HA.out (by simp [daybooklaw01_MoneyShares.j4])
                                          | succ kj34 =>
                                            have H := HA.out
                                            clear HA
                                            simp only [daybooklaw01_MoneyShares.j4] at H
                                            by_cases c37 : x136_34 = true
                                            · subst c37
                                              have H1 : (if 0 ≤ x14_2 then (if x14_2 < (l1.length : Int) then (if 0 ≤ x19_4 then (if x19_4 < (l1.length : Int) then (if (rd l1 x14_2) > (rd l1 x19_4) then (if x14_2 < (t104.length : Int) then (if x19_4 < (t104.length : Int) then (if (rd t104 x14_2) < (rd t104 x19_4) then (some false) else (if (rd l1 x14_2) ≤ (rd l1 x19_4) then (if (rd t104 x14_2) > (rd t104 x19_4) then (some false) else (daybooklaw01_MoneyShares.l1 kj34 a0 l1 a2 t104 t108 x14_2 (wrap64 (x19_4 + 1)))) else (daybooklaw01_MoneyShares.l1 kj34 a0 l1 a2 t104 t108 x14_2 (wrap64 (x19_4 + 1))))) else (none)) else (none)) else (if (rd l1 x14_2) ≤ (rd l1 x19_4) then (if x14_2 < (t104.length : Int) then (if x19_4 < (t104.length : Int) then (if (rd t104 x14_2) > (rd t104 x19_4) then (some false) else (daybooklaw01_MoneyShares.l1 kj34 a0 l1 a2 t104 t108 x14_2 (wrap64 (x19_4 + 1)))) else (none)) else (none)) else (daybooklaw01_MoneyShares.l1 kj34 a0 l1 a2 t104 t108 x14_2 (wrap64 (x19_4 + 1))))) else (none)) else (none)) else (none)) else (none)) = some r := by rw [if_pos rfl] at H; exact H
                                              clear H
                                              have H := H1
                                              clear H1
                                              by_cases c38 : 0 ≤ x14_2
                                              · rw [if_pos c38] at H
                                                have c38b0 : decide (0 ≤ x14_2) = true := decide_eq_true c38
                                                clear c38
                                                by_cases c39 : x14_2 < (l1.length : Int)
                                                · rw [if_pos c39] at H
                                                  have c39b0 : decide (x14_2 < (l1.length : Int)) = true := decide_eq_true c39
                                                  clear c39
                                                  by_cases c40 : 0 ≤ x19_4
                                                  · rw [if_pos c40] at H
                                                    have c40b0 : decide (0 ≤ x19_4) = true := decide_eq_true c40
                                                    clear c40
                                                    by_cases c41 : x19_4 < (l1.length : Int)
                                                    · rw [if_pos c41] at H
                                                      have c41b0 : decide (x19_4 < (l1.length : Int)) = true := decide_eq_true c41
                                                      clear c41
                                                      by_cases c42 : (rd l1 x14_2) > (rd l1 x19_4)
                                                      · rw [if_pos c42] at H
                                                        have c42b0 : decide ((rd l1 x19_4) < (rd l1 x14_2)) = true := decide_eq_true c42
                                                        clear c42
                                                        by_cases c43 : x14_2 < (t104.length : Int)
                                                        · rw [if_pos c43] at H
                                                          have c43b0 : decide (x14_2 < (t104.length : Int)) = true := decide_eq_true c43
                                                          clear c43
                                                          by_cases c44 : x19_4 < (t104.length : Int)
                                                          · rw [if_pos c44] at H
                                                            have c44b0 : decide (x19_4 < (t104.length : Int)) = true := decide_eq_true c44
                                                            clear c44
                                                            by_cases c45 : (rd t104 x14_2) < (rd t104 x19_4)
                                                            · rw [if_pos c45] at H
                                                              have c45b0 : decide ((rd t104 x14_2) < (rd t104 x19_4)) = true := decide_eq_true c45
                                                              clear c45
                                                              obtain rfl := Option.some.inj H
                                                              have p124 : 0 ≤ (x14_2 : Int) := of_decide_eq_true (by first | (with_reducible assumption) | assumption)
                                                              have q124 : x14_2 < (l1.length : Int) := of_decide_eq_true (by first | (with_reducible assumption) | assumption)
                                                              obtain ⟨ad124, e124, hx124_0⟩ := Kd.at_int HR1.out x14_2 p124 q124
                                                              obtain rfl : ad112 = ad124 := (by injection e124)
                                                              replace hx124_0 := (HB.out.cell (World.block_lt_of_cell? w _ hx124_0)).trans hx124_0
                                                              replace p124 := eq_true p124
                                                              replace q124 := eq_true q124
                                                              have p125 : 0 ≤ (x19_4 : Int) := of_decide_eq_true (by first | (with_reducible assumption) | assumption)
                                                              have q125 : x19_4 < (l1.length : Int) := of_decide_eq_true (by first | (with_reducible assumption) | assumption)
                                                              obtain ⟨ad125, e125, hx125_0⟩ := Kd.at_int HR1.out x19_4 p125 q125
                                                              obtain rfl : ad112 = ad125 := (by injection e125)
                                                              replace hx125_0 := (HB.out.cell (World.block_lt_of_cell? w _ hx125_0)).trans hx125_0
                                                              replace p125 := eq_true p125
                                                              replace q125 := eq_true q125
                                                              have p126 : 0 ≤ (x14_2 : Int) := of_decide_eq_true (by first | (with_reducible assumption) | assumption)
                                                              have q126 : x14_2 < (t104.length : Int) := of_decide_eq_true (by first | (with_reducible assumption) | assumption)
                                                              obtain ⟨ad126, e126, hx126_0⟩ := Kd.at_int (Kd.R_reads' HO_8.out).2.2 x14_2 p126 q126
                                                              cases e126
                                                              replace p126 := eq_true p126
                                                              replace q126 := eq_true q126
                                                              have p127 : 0 ≤ (x19_4 : Int) := of_decide_eq_true (by first | (with_reducible assumption) | assumption)
                                                              have q127 : x19_4 < (t104.length : Int) := of_decide_eq_true (by first | (with_reducible assumption) | assumption)
                                                              obtain ⟨ad127, e127, hx127_0⟩ := Kd.at_int (Kd.R_reads' HO_8.out).2.2 x19_4 p127 q127
                                                              obtain rfl : ad126 = ad127 := (by injection e127)
                                                              replace p127 := eq_true p127
                                                              replace q127 := eq_true q127
                                                              go_wp2
                                                              repeat (go_quiet (fail); try go_wp2)
                                                              go_ret
                                                              exact ⟨by first | rfl | (simp [errW_none, errW_some] <;> rfl) | (simp [*, errW_none, errW_some] <;> rfl), by repeat (first | (with_reducible first | exact HB.out | apply below_alloc | apply pw_below_drewN | apply below_drew1) | exact HB.out)⟩
                                                            · rw [if_neg c45] at H
                                                              have c45b0 : decide ((rd t104 x14_2) < (rd t104 x19_4)) = false := decide_eq_false c45
                                                              clear c45
                                                              by_cases c46 : (rd l1 x14_2) ≤ (rd l1 x19_4)
                                                              · rw [if_pos c46] at H
                                                                have c46b0 : decide ((rd l1 x14_2) ≤ (rd l1 x19_4)) = true := decide_eq_true c46
                                                                clear c46
                                                                by_cases c47 : (rd t104 x14_2) > (rd t104 x19_4)
                                                                · rw [if_pos c47] at H
                                                                  have c47b0 : decide ((rd t104 x19_4) < (rd t104 x14_2)) = true := decide_eq_true c47
                                                                  clear c47
                                                                  obtain rfl := Option.some.inj H
                                                                  have p124 : 0 ≤ (x14_2 : Int) := of_decide_eq_true (by first | (with_reducible assumption) | assumption)
                                                                  have q124 : x14_2 < (l1.length : Int) := of_decide_eq_true (by first | (with_reducible assumption) | assumption)
                                                                  obtain ⟨ad124, e124, hx124_0⟩ := Kd.at_int HR1.out x14_2 p124 q124
                                                                  obtain rfl : ad112 = ad124 := (by injection e124)
                                                                  replace hx124_0 := (HB.out.cell (World.block_lt_of_cell? w _ hx124_0)).trans hx124_0
                                                                  replace p124 := eq_true p124
                                                                  replace q124 := eq_true q124
                                                                  have p125 : 0 ≤ (x19_4 : Int) := of_decide_eq_true (by first | (with_reducible assumption) | assumption)
                                                                  have q125 : x19_4 < (l1.length : Int) := of_decide_eq_true (by first | (with_reducible assumption) | assumption)
                                                                  obtain ⟨ad125, e125, hx125_0⟩ := Kd.at_int HR1.out x19_4 p125 q125
                                                                  obtain rfl : ad112 = ad125 := (by injection e125)
                                                                  replace hx125_0 := (HB.out.cell (World.block_lt_of_cell? w _ hx125_0)).trans hx125_0
                                                                  replace p125 := eq_true p125
                                                                  replace q125 := eq_true q125
                                                                  have p126 : 0 ≤ (x14_2 : Int) := of_decide_eq_true (by first | (with_reducible assumption) | assumption)
                                                                  have q126 : x14_2 < (t104.length : Int) := of_decide_eq_true (by first | (with_reducible assumption) | assumption)
                                                                  obtain ⟨ad126, e126, hx126_0⟩ := Kd.at_int (Kd.R_reads' HO_8.out).2.2 x14_2 p126 q126
                                                                  cases e126
                                                                  replace p126 := eq_true p126
                                                                  replace q126 := eq_true q126
                                                                  have p127 : 0 ≤ (x19_4 : Int) := of_decide_eq_true (by first | (with_reducible assumption) | assumption)
                                                                  have q127 : x19_4 < (t104.length : Int) := of_decide_eq_true (by first | (with_reducible assumption) | assumption)
                                                                  obtain ⟨ad127, e127, hx127_0⟩ := Kd.at_int (Kd.R_reads' HO_8.out).2.2 x19_4 p127 q127
                                                                  obtain rfl : ad126 = ad127 := (by injection e127)
                                                                  replace p127 := eq_true p127
                                                                  replace q127 := eq_true q127
                                                                  have p128 : 0 ≤ (x14_2 : Int) := of_decide_eq_true (by first | (with_reducible assumption) | assumption)
                                                                  have q128 : x14_2 < (l1.length : Int) := of_decide_eq_true (by first | (with_reducible assumption) | assumption)
                                                                  obtain ⟨ad128, e128, hx128_0⟩ := Kd.at_int HR1.out x14_2 p128 q128
                                                                  obtain rfl : ad112 = ad128 := (by injection e128)
                                                                  replace hx128_0 := (HB.out.cell (World.block_lt_of_cell? w _ hx128_0)).trans hx128_0
                                                                  replace p128 := eq_true p128
                                                                  replace q128 := eq_true q128
                                                                  have p129 : 0 ≤ (x19_4 : Int) := of_decide_eq_true (by first | (with_reducible assumption) | assumption)
                                                                  have q129 : x19_4 < (l1.length : Int) := of_decide_eq_true (by first | (with_reducible assumption) | assumption)
                                                                  obtain ⟨ad129, e129, hx129_0⟩ := Kd.at_int HR1.out x19_4 p129 q129
                                                                  obtain rfl : ad112 = ad129 := (by injection e129)
                                                                  replace hx129_0 := (HB.out.cell (World.block_lt_of_cell? w _ hx129_0)).trans hx129_0
                                                                  replace p129 := eq_true p129
                                                                  replace q129 := eq_true q129
                                                                  have p130 : 0 ≤ (x14_2 : Int) := of_decide_eq_true (by first | (with_reducible assumption) | assumption)
                                                                  have q130 : x14_2 < (t104.length : Int) := of_decide_eq_true (by first | (with_reducible assumption) | assumption)
                                                                  obtain ⟨ad130, e130, hx130_0⟩ := Kd.at_int (Kd.R_reads' HO_8.out).2.2 x14_2 p130 q130
                                                                  obtain rfl : ad126 = ad130 := (by injection e130)
                                                                  replace p130 := eq_true p130
                                                                  replace q130 := eq_true q130
                                                                  have p131 : 0 ≤ (x19_4 : Int) := of_decide_eq_true (by first | (with_reducible assumption) | assumption)
                                                                  have q131 : x19_4 < (t104.length : Int) := of_decide_eq_true (by first | (with_reducible assumption) | assumption)
                                                                  obtain ⟨ad131, e131, hx131_0⟩ := Kd.at_int (Kd.R_reads' HO_8.out).2.2 x19_4 p131 q131
                                                                  obtain rfl : ad126 = ad131 := (by injection e131)
                                                                  replace p131 := eq_true p131
                                                                  replace q131 := eq_true q131
                                                                  go_wp2
                                                                  repeat (go_quiet (fail); try go_wp2)
                                                                  go_ret
                                                                  exact ⟨by first | rfl | (simp [errW_none, errW_some] <;> rfl) | (simp [*, errW_none, errW_some] <;> rfl), by repeat (first | (with_reducible first | exact HB.out | apply below_alloc | apply pw_below_drewN | apply below_drew1) | exact HB.out)⟩
                                                                · rw [if_neg c47] at H
                                                                  have c47b0 : decide ((rd t104 x19_4) < (rd t104 x14_2)) = false := decide_eq_false c47
                                                                  clear c47
                                                                  have H' := Aside0.mk H
                                                                  clear H
                                                                  have p124 : 0 ≤ (x14_2 : Int) := of_decide_eq_true (by first | (with_reducible assumption) | assumption)
                                                                  have q124 : x14_2 < (l1.length : Int) := of_decide_eq_true (by first | (with_reducible assumption) | assumption)
                                                                  obtain ⟨ad124, e124, hx124_0⟩ := Kd.at_int HR1.out x14_2 p124 q124
                                                                  obtain rfl : ad112 = ad124 := (by injection e124)
                                                                  replace hx124_0 := (HB.out.cell (World.block_lt_of_cell? w _ hx124_0)).trans hx124_0
                                                                  replace p124 := eq_true p124
                                                                  replace q124 := eq_true q124
                                                                  have p125 : 0 ≤ (x19_4 : Int) := of_decide_eq_true (by first | (with_reducible assumption) | assumption)
                                                                  have q125 : x19_4 < (l1.length : Int) := of_decide_eq_true (by first | (with_reducible assumption) | assumption)
                                                                  obtain ⟨ad125, e125, hx125_0⟩ := Kd.at_int HR1.out x19_4 p125 q125
                                                                  obtain rfl : ad112 = ad125 := (by injection e125)
                                                                  replace hx125_0 := (HB.out.cell (World.block_lt_of_cell? w _ hx125_0)).trans hx125_0
                                                                  replace p125 := eq_true p125
                                                                  replace q125 := eq_true q125
                                                                  have p126 : 0 ≤ (x14_2 : Int) := of_decide_eq_true (by first | (with_reducible assumption) | assumption)
                                                                  have q126 : x14_2 < (t104.length : Int) := of_decide_eq_true (by first | (with_reducible assumption) | assumption)
                                                                  obtain ⟨ad126, e126, hx126_0⟩ := Kd.at_int (Kd.R_reads' HO_8.out).2.2 x14_2 p126 q126
                                                                  cases e126
                                                                  replace p126 := eq_true p126
                                                                  replace q126 := eq_true q126
                                                                  have p127 : 0 ≤ (x19_4 : Int) := of_decide_eq_true (by first | (with_reducible assumption) | assumption)
                                                                  have q127 : x19_4 < (t104.length : Int) := of_decide_eq_true (by first | (with_reducible assumption) | assumption)
                                                                  obtain ⟨ad127, e127, hx127_0⟩ := Kd.at_int (Kd.R_reads' HO_8.out).2.2 x19_4 p127 q127
                                                                  obtain rfl : ad126 = ad127 := (by injection e127)
                                                                  replace p127 := eq_true p127
                                                                  replace q127 := eq_true q127
                                                                  have p128 : 0 ≤ (x14_2 : Int) := of_decide_eq_true (by first | (with_reducible assumption) | assumption)
                                                                  have q128 : x14_2 < (l1.length : Int) := of_decide_eq_true (by first | (with_reducible assumption) | assumption)
                                                                  obtain ⟨ad128, e128, hx128_0⟩ := Kd.at_int HR1.out x14_2 p128 q128
                                                                  obtain rfl : ad112 = ad128 := (by injection e128)
                                                                  replace hx128_0 := (HB.out.cell (World.block_lt_of_cell? w _ hx128_0)).trans hx128_0
                                                                  replace p128 := eq_true p128
                                                                  replace q128 := eq_true q128
                                                                  have p129 : 0 ≤ (x19_4 : Int) := of_decide_eq_true (by first | (with_reducible assumption) | assumption)
                                                                  have q129 : x19_4 < (l1.length : Int) := of_decide_eq_true (by first | (with_reducible assumption) | assumption)
                                                                  obtain ⟨ad129, e129, hx129_0⟩ := Kd.at_int HR1.out x19_4 p129 q129
                                                                  obtain rfl : ad112 = ad129 := (by injection e129)
                                                                  replace hx129_0 := (HB.out.cell (World.block_lt_of_cell? w _ hx129_0)).trans hx129_0
                                                                  replace p129 := eq_true p129
                                                                  replace q129 := eq_true q129
                                                                  have p130 : 0 ≤ (x14_2 : Int) := of_decide_eq_true (by first | (with_reducible assumption) | assumption)
                                                                  have q130 : x14_2 < (t104.length : Int) := of_decide_eq_true (by first | (with_reducible assumption) | assumption)
                                                                  obtain ⟨ad130, e130, hx130_0⟩ := Kd.at_int (Kd.R_reads' HO_8.out).2.2 x14_2 p130 q130
                                                                  obtain rfl : ad126 = ad130 := (by injection e130)
                                                                  replace p130 := eq_true p130
                                                                  replace q130 := eq_true q130
                                                                  have p131 : 0 ≤ (x19_4 : Int) := of_decide_eq_true (by first | (with_reducible assumption) | assumption)
                                                                  have q131 : x19_4 < (t104.length : Int) := of_decide_eq_true (by first | (with_reducible assumption) | assumption)
                                                                  obtain ⟨ad131, e131, hx131_0⟩ := Kd.at_int (Kd.R_reads' HO_8.out).2.2 x19_4 p131 q131
                                                                  obtain rfl : ad126 = ad131 := (by injection e131)
                                                                  replace p131 := eq_true p131
                                                                  replace q131 := eq_true q131
                                                                  go_wp2
                                                                  repeat (go_quiet (fail); try go_wp2)
                                                                  go_roundg kj34
                                                                  case measure => have := HJ9.out; have := HK2.out; have := HJ23.out; have := HK4.out; have := HJ34.out; omega
                                                                  case rel => exact ⟨(wrap64 (x19_4 + 1)), (by first | rfl | (simp; done) | (simp [*]; done)), H', ⟨by have := HJ9.out; have := HK2.out; have := HJ23.out; have := HK4.out; have := HJ34.out; omega⟩, ⟨by (with_reducible repeat (first | apply Kd.R_alloc | apply Kd.R_drewN | apply Kd.R_drew)); exact HO_8.out⟩, ⟨by repeat (first | (with_reducible first | exact HB.out | apply below_alloc | apply pw_below_drewN | apply below_drew1) | exact HB.out)⟩⟩
                                                              · rw [if_neg c46] at H
                                                                have c46b0 : decide ((rd l1 x14_2) ≤ (rd l1 x19_4)) = false := decide_eq_false c46
                                                                clear c46
                                                                have H' := Aside0.mk H
                                                                clear H
                                                                have p124 : 0 ≤ (x14_2 : Int) := of_decide_eq_true (by first | (with_reducible assumption) | assumption)
                                                                have q124 : x14_2 < (l1.length : Int) := of_decide_eq_true (by first | (with_reducible assumption) | assumption)
                                                                obtain ⟨ad124, e124, hx124_0⟩ := Kd.at_int HR1.out x14_2 p124 q124
                                                                obtain rfl : ad112 = ad124 := (by injection e124)
                                                                replace hx124_0 := (HB.out.cell (World.block_lt_of_cell? w _ hx124_0)).trans hx124_0
                                                                replace p124 := eq_true p124
                                                                replace q124 := eq_true q124
                                                                have p125 : 0 ≤ (x19_4 : Int) := of_decide_eq_true (by first | (with_reducible assumption) | assumption)
                                                                have q125 : x19_4 < (l1.length : Int) := of_decide_eq_true (by first | (with_reducible assumption) | assumption)
                                                                obtain ⟨ad125, e125, hx125_0⟩ := Kd.at_int HR1.out x19_4 p125 q125
                                                                obtain rfl : ad112 = ad125 := (by injection e125)
                                                                replace hx125_0 := (HB.out.cell (World.block_lt_of_cell? w _ hx125_0)).trans hx125_0
                                                                replace p125 := eq_true p125
                                                                replace q125 := eq_true q125
                                                                have p126 : 0 ≤ (x14_2 : Int) := of_decide_eq_true (by first | (with_reducible assumption) | assumption)
                                                                have q126 : x14_2 < (t104.length : Int) := of_decide_eq_true (by first | (with_reducible assumption) | assumption)
                                                                obtain ⟨ad126, e126, hx126_0⟩ := Kd.at_int (Kd.R_reads' HO_8.out).2.2 x14_2 p126 q126
                                                                cases e126
                                                                replace p126 := eq_true p126
                                                                replace q126 := eq_true q126
                                                                have p127 : 0 ≤ (x19_4 : Int) := of_decide_eq_true (by first | (with_reducible assumption) | assumption)
                                                                have q127 : x19_4 < (t104.length : Int) := of_decide_eq_true (by first | (with_reducible assumption) | assumption)
                                                                obtain ⟨ad127, e127, hx127_0⟩ := Kd.at_int (Kd.R_reads' HO_8.out).2.2 x19_4 p127 q127
                                                                obtain rfl : ad126 = ad127 := (by injection e127)
                                                                replace p127 := eq_true p127
                                                                replace q127 := eq_true q127
                                                                have p128 : 0 ≤ (x14_2 : Int) := of_decide_eq_true (by first | (with_reducible assumption) | assumption)
                                                                have q128 : x14_2 < (l1.length : Int) := of_decide_eq_true (by first | (with_reducible assumption) | assumption)
                                                                obtain ⟨ad128, e128, hx128_0⟩ := Kd.at_int HR1.out x14_2 p128 q128
                                                                obtain rfl : ad112 = ad128 := (by injection e128)
                                                                replace hx128_0 := (HB.out.cell (World.block_lt_of_cell? w _ hx128_0)).trans hx128_0
                                                                replace p128 := eq_true p128
                                                                replace q128 := eq_true q128
                                                                have p129 : 0 ≤ (x19_4 : Int) := of_decide_eq_true (by first | (with_reducible assumption) | assumption)
                                                                have q129 : x19_4 < (l1.length : Int) := of_decide_eq_true (by first | (with_reducible assumption) | assumption)
                                                                obtain ⟨ad129, e129, hx129_0⟩ := Kd.at_int HR1.out x19_4 p129 q129
                                                                obtain rfl : ad112 = ad129 := (by injection e129)
                                                                replace hx129_0 := (HB.out.cell (World.block_lt_of_cell? w _ hx129_0)).trans hx129_0
                                                                replace p129 := eq_true p129
                                                                replace q129 := eq_true q129
                                                                go_wp2
                                                                repeat (go_quiet (fail); try go_wp2)
                                                                go_roundg kj34
                                                                case measure => have := HJ9.out; have := HK2.out; have := HJ23.out; have := HK4.out; have := HJ34.out; omega
                                                                case rel => exact ⟨(wrap64 (x19_4 + 1)), (by first | rfl | (simp; done) | (simp [*]; done)), H', ⟨by have := HJ9.out; have := HK2.out; have := HJ23.out; have := HK4.out; have := HJ34.out; omega⟩, ⟨by (with_reducible repeat (first | apply Kd.R_alloc | apply Kd.R_drewN | apply Kd.R_drew)); exact HO_8.out⟩, ⟨by repeat (first | (with_reducible first | exact HB.out | apply below_alloc | apply pw_below_drewN | apply below_drew1) | exact HB.out)⟩⟩
                                                          · rw [if_neg c44] at H
                                                            exact absurd H (by simp)
                                                        · rw [if_neg c43] at H
                                                          exact absurd H (by simp)
                                                      · rw [if_neg c42] at H
                                                        have c42b0 : decide ((rd l1 x19_4) < (rd l1 x14_2)) = false := decide_eq_false c42
                                                        clear c42
                                                        by_cases c48 : (rd l1 x14_2) ≤ (rd l1 x19_4)
                                                        · rw [if_pos c48] at H
                                                          have c48b0 : decide ((rd l1 x14_2) ≤ (rd l1 x19_4)) = true := decide_eq_true c48
                                                          clear c48
                                                          by_cases c49 : x14_2 < (t104.length : Int)
                                                          · rw [if_pos c49] at H
                                                            have c49b0 : decide (x14_2 < (t104.length : Int)) = true := decide_eq_true c49
                                                            clear c49
                                                            by_cases c50 : x19_4 < (t104.length : Int)
                                                            · rw [if_pos c50] at H
                                                              have c50b0 : decide (x19_4 < (t104.length : Int)) = true := decide_eq_true c50
                                                              clear c50
                                                              by_cases c51 : (rd t104 x14_2) > (rd t104 x19_4)
                                                              · rw [if_pos c51] at H
                                                                have c51b0 : decide ((rd t104 x19_4) < (rd t104 x14_2)) = true := decide_eq_true c51
                                                                clear c51
                                                                obtain rfl := Option.some.inj H
                                                                have p124 : 0 ≤ (x14_2 : Int) := of_decide_eq_true (by first | (with_reducible assumption) | assumption)
                                                                have q124 : x14_2 < (l1.length : Int) := of_decide_eq_true (by first | (with_reducible assumption) | assumption)
                                                                obtain ⟨ad124, e124, hx124_0⟩ := Kd.at_int HR1.out x14_2 p124 q124
                                                                obtain rfl : ad112 = ad124 := (by injection e124)
                                                                replace hx124_0 := (HB.out.cell (World.block_lt_of_cell? w _ hx124_0)).trans hx124_0
                                                                replace p124 := eq_true p124
                                                                replace q124 := eq_true q124
                                                                have p125 : 0 ≤ (x19_4 : Int) := of_decide_eq_true (by first | (with_reducible assumption) | assumption)
                                                                have q125 : x19_4 < (l1.length : Int) := of_decide_eq_true (by first | (with_reducible assumption) | assumption)
                                                                obtain ⟨ad125, e125, hx125_0⟩ := Kd.at_int HR1.out x19_4 p125 q125
                                                                obtain rfl : ad112 = ad125 := (by injection e125)
                                                                replace hx125_0 := (HB.out.cell (World.block_lt_of_cell? w _ hx125_0)).trans hx125_0
                                                                replace p125 := eq_true p125
                                                                replace q125 := eq_true q125
                                                                have p132 : 0 ≤ (x14_2 : Int) := of_decide_eq_true (by first | (with_reducible assumption) | assumption)
                                                                have q132 : x14_2 < (l1.length : Int) := of_decide_eq_true (by first | (with_reducible assumption) | assumption)
                                                                obtain ⟨ad132, e132, hx132_0⟩ := Kd.at_int HR1.out x14_2 p132 q132
                                                                obtain rfl : ad112 = ad132 := (by injection e132)
                                                                replace hx132_0 := (HB.out.cell (World.block_lt_of_cell? w _ hx132_0)).trans hx132_0
                                                                replace p132 := eq_true p132
                                                                replace q132 := eq_true q132
                                                                have p133 : 0 ≤ (x19_4 : Int) := of_decide_eq_true (by first | (with_reducible assumption) | assumption)
                                                                have q133 : x19_4 < (l1.length : Int) := of_decide_eq_true (by first | (with_reducible assumption) | assumption)
                                                                obtain ⟨ad133, e133, hx133_0⟩ := Kd.at_int HR1.out x19_4 p133 q133
                                                                obtain rfl : ad112 = ad133 := (by injection e133)
                                                                replace hx133_0 := (HB.out.cell (World.block_lt_of_cell? w _ hx133_0)).trans hx133_0
                                                                replace p133 := eq_true p133
                                                                replace q133 := eq_true q133
                                                                have p134 : 0 ≤ (x14_2 : Int) := of_decide_eq_true (by first | (with_reducible assumption) | assumption)
                                                                have q134 : x14_2 < (t104.length : Int) := of_decide_eq_true (by first | (with_reducible assumption) | assumption)
                                                                obtain ⟨ad134, e134, hx134_0⟩ := Kd.at_int (Kd.R_reads' HO_8.out).2.2 x14_2 p134 q134
                                                                cases e134
                                                                replace p134 := eq_true p134
                                                                replace q134 := eq_true q134
                                                                have p135 : 0 ≤ (x19_4 : Int) := of_decide_eq_true (by first | (with_reducible assumption) | assumption)
                                                                have q135 : x19_4 < (t104.length : Int) := of_decide_eq_true (by first | (with_reducible assumption) | assumption)
                                                                obtain ⟨ad135, e135, hx135_0⟩ := Kd.at_int (Kd.R_reads' HO_8.out).2.2 x19_4 p135 q135
                                                                obtain rfl : ad134 = ad135 := (by injection e135)
                                                                replace p135 := eq_true p135
                                                                replace q135 := eq_true q135
                                                                go_wp2
                                                                repeat (go_quiet (fail); try go_wp2)
                                                                go_ret
                                                                exact ⟨by first | rfl | (simp [errW_none, errW_some] <;> rfl) | (simp [*, errW_none, errW_some] <;> rfl), by repeat (first | (with_reducible first | exact HB.out | apply below_alloc | apply pw_below_drewN | apply below_drew1) | exact HB.out)⟩
                                                              · rw [if_neg c51] at H
                                                                have c51b0 : decide ((rd t104 x19_4) < (rd t104 x14_2)) = false := decide_eq_false c51
                                                                clear c51
                                                                have H' := Aside0.mk H
                                                                clear H
                                                                have p124 : 0 ≤ (x14_2 : Int) := of_decide_eq_true (by first | (with_reducible assumption) | assumption)
                                                                have q124 : x14_2 < (l1.length : Int) := of_decide_eq_true (by first | (with_reducible assumption) | assumption)
                                                                obtain ⟨ad124, e124, hx124_0⟩ := Kd.at_int HR1.out x14_2 p124 q124
                                                                obtain rfl : ad112 = ad124 := (by injection e124)
                                                                replace hx124_0 := (HB.out.cell (World.block_lt_of_cell? w _ hx124_0)).trans hx124_0
                                                                replace p124 := eq_true p124
                                                                replace q124 := eq_true q124
                                                                have p125 : 0 ≤ (x19_4 : Int) := of_decide_eq_true (by first | (with_reducible assumption) | assumption)
                                                                have q125 : x19_4 < (l1.length : Int) := of_decide_eq_true (by first | (with_reducible assumption) | assumption)
                                                                obtain ⟨ad125, e125, hx125_0⟩ := Kd.at_int HR1.out x19_4 p125 q125
                                                                obtain rfl : ad112 = ad125 := (by injection e125)
                                                                replace hx125_0 := (HB.out.cell (World.block_lt_of_cell? w _ hx125_0)).trans hx125_0
                                                                replace p125 := eq_true p125
                                                                replace q125 := eq_true q125
                                                                have p132 : 0 ≤ (x14_2 : Int) := of_decide_eq_true (by first | (with_reducible assumption) | assumption)
                                                                have q132 : x14_2 < (l1.length : Int) := of_decide_eq_true (by first | (with_reducible assumption) | assumption)
                                                                obtain ⟨ad132, e132, hx132_0⟩ := Kd.at_int HR1.out x14_2 p132 q132
                                                                obtain rfl : ad112 = ad132 := (by injection e132)
                                                                replace hx132_0 := (HB.out.cell (World.block_lt_of_cell? w _ hx132_0)).trans hx132_0
                                                                replace p132 := eq_true p132
                                                                replace q132 := eq_true q132
                                                                have p133 : 0 ≤ (x19_4 : Int) := of_decide_eq_true (by first | (with_reducible assumption) | assumption)
                                                                have q133 : x19_4 < (l1.length : Int) := of_decide_eq_true (by first | (with_reducible assumption) | assumption)
                                                                obtain ⟨ad133, e133, hx133_0⟩ := Kd.at_int HR1.out x19_4 p133 q133
                                                                obtain rfl : ad112 = ad133 := (by injection e133)
                                                                replace hx133_0 := (HB.out.cell (World.block_lt_of_cell? w _ hx133_0)).trans hx133_0
                                                                replace p133 := eq_true p133
                                                                replace q133 := eq_true q133
                                                                have p134 : 0 ≤ (x14_2 : Int) := of_decide_eq_true (by first | (with_reducible assumption) | assumption)
                                                                have q134 : x14_2 < (t104.length : Int) := of_decide_eq_true (by first | (with_reducible assumption) | assumption)
                                                                obtain ⟨ad134, e134, hx134_0⟩ := Kd.at_int (Kd.R_reads' HO_8.out).2.2 x14_2 p134 q134
                                                                cases e134
                                                                replace p134 := eq_true p134
                                                                replace q134 := eq_true q134
                                                                have p135 : 0 ≤ (x19_4 : Int) := of_decide_eq_true (by first | (with_reducible assumption) | assumption)
                                                                have q135 : x19_4 < (t104.length : Int) := of_decide_eq_true (by first | (with_reducible assumption) | assumption)
                                                                obtain ⟨ad135, e135, hx135_0⟩ := Kd.at_int (Kd.R_reads' HO_8.out).2.2 x19_4 p135 q135
                                                                obtain rfl : ad134 = ad135 := (by injection e135)
                                                                replace p135 := eq_true p135
                                                                replace q135 := eq_true q135
                                                                go_wp2
                                                                repeat (go_quiet (fail); try go_wp2)
                                                                go_roundg kj34
                                                                case measure => have := HJ9.out; have := HK2.out; have := HJ23.out; have := HK4.out; have := HJ34.out; omega
                                                                case rel => exact ⟨(wrap64 (x19_4 + 1)), (by first | rfl | (simp; done) | (simp [*]; done)), H', ⟨by have := HJ9.out; have := HK2.out; have := HJ23.out; have := HK4.out; have := HJ34.out; omega⟩, ⟨by (with_reducible repeat (first | apply Kd.R_alloc | apply Kd.R_drewN | apply Kd.R_drew)); exact HO_8.out⟩, ⟨by repeat (first | (with_reducible first | exact HB.out | apply below_alloc | apply pw_below_drewN | apply below_drew1) | exact HB.out)⟩⟩
                                                            · rw [if_neg c50] at H
                                                              exact absurd H (by simp)
                                                          · rw [if_neg c49] at H
                                                            exact absurd H (by simp)
                                                        · rw [if_neg c48] at H
                                                          have c48b0 : decide ((rd l1 x14_2) ≤ (rd l1 x19_4)) = false := decide_eq_false c48
                                                          clear c48
                                                          have H' := Aside0.mk H
                                                          clear H
                                                          have p124 : 0 ≤ (x14_2 : Int) := of_decide_eq_true (by first | (with_reducible assumption) | assumption)
                                                          have q124 : x14_2 < (l1.length : Int) := of_decide_eq_true (by first | (with_reducible assumption) | assumption)
                                                          obtain ⟨ad124, e124, hx124_0⟩ := Kd.at_int HR1.out x14_2 p124 q124
                                                          obtain rfl : ad112 = ad124 := (by injection e124)
                                                          replace hx124_0 := (HB.out.cell (World.block_lt_of_cell? w _ hx124_0)).trans hx124_0
                                                          replace p124 := eq_true p124
                                                          replace q124 := eq_true q124
                                                          have p125 : 0 ≤ (x19_4 : Int) := of_decide_eq_true (by first | (with_reducible assumption) | assumption)
                                                          have q125 : x19_4 < (l1.length : Int) := of_decide_eq_true (by first | (with_reducible assumption) | assumption)
                                                          obtain ⟨ad125, e125, hx125_0⟩ := Kd.at_int HR1.out x19_4 p125 q125
                                                          obtain rfl : ad112 = ad125 := (by injection e125)
                                                          replace hx125_0 := (HB.out.cell (World.block_lt_of_cell? w _ hx125_0)).trans hx125_0
                                                          replace p125 := eq_true p125
                                                          replace q125 := eq_true q125
                                                          have p132 : 0 ≤ (x14_2 : Int) := of_decide_eq_true (by first | (with_reducible assumption) | assumption)
                                                          have q132 : x14_2 < (l1.length : Int) := of_decide_eq_true (by first | (with_reducible assumption) | assumption)
                                                          obtain ⟨ad132, e132, hx132_0⟩ := Kd.at_int HR1.out x14_2 p132 q132
                                                          obtain rfl : ad112 = ad132 := (by injection e132)
                                                          replace hx132_0 := (HB.out.cell (World.block_lt_of_cell? w _ hx132_0)).trans hx132_0
                                                          replace p132 := eq_true p132
                                                          replace q132 := eq_true q132
                                                          have p133 : 0 ≤ (x19_4 : Int) := of_decide_eq_true (by first | (with_reducible assumption) | assumption)
                                                          have q133 : x19_4 < (l1.length : Int) := of_decide_eq_true (by first | (with_reducible assumption) | assumption)
                                                          obtain ⟨ad133, e133, hx133_0⟩ := Kd.at_int HR1.out x19_4 p133 q133
                                                          obtain rfl : ad112 = ad133 := (by injection e133)
                                                          replace hx133_0 := (HB.out.cell (World.block_lt_of_cell? w _ hx133_0)).trans hx133_0
                                                          replace p133 := eq_true p133
                                                          replace q133 := eq_true q133
                                                          go_wp2
                                                          repeat (go_quiet (fail); try go_wp2)
                                                          go_roundg kj34
                                                          case measure => have := HJ9.out; have := HK2.out; have := HJ23.out; have := HK4.out; have := HJ34.out; omega
                                                          case rel => exact ⟨(wrap64 (x19_4 + 1)), (by first | rfl | (simp; done) | (simp [*]; done)), H', ⟨by have := HJ9.out; have := HK2.out; have := HJ23.out; have := HK4.out; have := HJ34.out; omega⟩, ⟨by (with_reducible repeat (first | apply Kd.R_alloc | apply Kd.R_drewN | apply Kd.R_drew)); exact HO_8.out⟩, ⟨by repeat (first | (with_reducible first | exact HB.out | apply below_alloc | apply pw_below_drewN | apply below_drew1) | exact HB.out)⟩⟩
                                                    · rw [if_neg c41] at H
                                                      exact absurd H (by simp)
                                                  · rw [if_neg c40] at H
                                                    exact absurd H (by simp)
                                                · rw [if_neg c39] at H
                                                  exact absurd H (by simp)
                                              · rw [if_neg c38] at H
                                                exact absurd H (by simp)
                                            · replace c37 := Bool.eq_false_iff.mpr c37
                                              subst c37
                                              have H1 : (daybooklaw01_MoneyShares.l0 kj34 a0 l1 a2 t104 t108 (wrap64 (x14_2 + 1))) = some r := by rw [if_neg (show ¬ (false = true) by decide)] at H; exact H
                                              clear H
                                              have H := H1
                                              clear H1
                                              have H' := Aside0.mk H
                                              clear H
                                              go_wp2
                                              repeat (go_quiet (fail); try go_wp2)
                                              go_roundg kj34
                                              case measure => have := HJ9.out; have := HK2.out; have := HJ23.out; have := HK4.out; have := HJ34.out; omega
                                              case rel => exact ⟨(wrap64 (x14_2 + 1)), (by first | rfl | (simp; done) | (simp [*]; done)), H', ⟨by have := HJ9.out; have := HK2.out; have := HJ23.out; have := HK4.out; have := HJ34.out; omega⟩, ⟨by (with_reducible repeat (first | apply Kd.R_alloc | apply Kd.R_drewN | apply Kd.R_drew)); exact HO_8.out⟩, ⟨by repeat (first | (with_reducible first | exact HB.out | apply below_alloc | apply pw_below_drewN | apply below_drew1) | exact HB.out)⟩⟩
                      · rw [if_neg c21] at H
                        exact absurd H (by simp)
                    · rw [if_neg c20] at H
                      have c20b0 : decide (x14_2 < (l1.length : Int)) = false := decide_eq_false c20
                      clear c20
                      replace H := Option.bind_eq_some_iff.mp H
                      obtain ⟨⟨t136, t137⟩, A520, H⟩ := H
                      replace H : (if t137 = 0 then (daybooklaw01_MoneyShares.j5 k2 a0 l1 a2 t104 t108 t136 ((t136.length : Int) != (t104.length : Int))) else (daybooklaw01_MoneyShares.j5 k2 a0 l1 a2 t104 t108 t136 true)) = some r := H
                      have A52 := Aside0.mk A520
                      clear A520
                      have HC53 := Aside0.mk H
                      clear H
                      go_upto_region 24 with (first | (go_at_call 14; (with_reducible refine (money_Split.calls (wrap64 (-a0)) _ _ l1 t136 t137 _ ?side1 ?side2 A52.out (Glob.step G0.out (by repeat (first | (with_reducible first | exact HB.out | apply below_alloc | apply pw_below_drewN | apply below_drew1) | exact HB.out | exact Below.refl _ _)))).mono ?_); (case side1 => repeat (first | exact (Kd.C_below HR1.out HB.out) | (with_reducible refine Kd.C_alloc ?_ _) | (with_reducible refine Kd.C_drewN ?_ _) | (with_reducible refine Kd.C_drew ?_))); (case side2 => exact HC1.out); rintro e w54 ⟨v138, rfl, ho0, hb⟩; have n0_ := Aside0.mk (Kd.R_elder' (by (with_reducible repeat (first | apply Kd.R_alloc | apply Kd.R_drewN | apply Kd.R_drew)); exact HO_8.out) (Kd.R_base ho0) hb); have n1_ := Aside0.mk (Kd.R_lower (Kd.R_new' ho0 (Kd.R_lt (by (with_reducible repeat (first | apply Kd.R_alloc | apply Kd.R_drewN | apply Kd.R_drew)); exact HO_8.out))) (below_size (by repeat (first | (with_reducible first | exact HB.out | apply below_alloc | apply pw_below_drewN | apply below_drew1) | exact HB.out)))); have n2_ := Aside0.mk (below_step (by repeat (first | (with_reducible first | exact HB.out | apply below_alloc | apply pw_below_drewN | apply below_drew1) | exact HB.out)) hb); clear HO_8; clear HB; have HO_8 := n0_; have HO139 := n1_; have HB := n2_; clear n0_ n1_ n2_; (try clear hb); (try clear hb2); (try clear hk); (try clear hi); (try clear ho0)))
                      repeat (go_quiet (first | (go_at_call 14; (with_reducible refine (money_Split.calls (wrap64 (-a0)) _ _ l1 t136 t137 _ ?side1 ?side2 A52.out (Glob.step G0.out (by repeat (first | (with_reducible first | exact HB.out | apply below_alloc | apply pw_below_drewN | apply below_drew1) | exact HB.out | exact Below.refl _ _)))).mono ?_); (case side1 => repeat (first | exact (Kd.C_below HR1.out HB.out) | (with_reducible refine Kd.C_alloc ?_ _) | (with_reducible refine Kd.C_drewN ?_ _) | (with_reducible refine Kd.C_drew ?_))); (case side2 => exact HC1.out); rintro e w54 ⟨v138, rfl, ho0, hb⟩; have n0_ := Aside0.mk (Kd.R_elder' (by (with_reducible repeat (first | apply Kd.R_alloc | apply Kd.R_drewN | apply Kd.R_drew)); exact HO_8.out) (Kd.R_base ho0) hb); have n1_ := Aside0.mk (Kd.R_lower (Kd.R_new' ho0 (Kd.R_lt (by (with_reducible repeat (first | apply Kd.R_alloc | apply Kd.R_drewN | apply Kd.R_drew)); exact HO_8.out))) (below_size (by repeat (first | (with_reducible first | exact HB.out | apply below_alloc | apply pw_below_drewN | apply below_drew1) | exact HB.out)))); have n2_ := Aside0.mk (below_step (by repeat (first | (with_reducible first | exact HB.out | apply below_alloc | apply pw_below_drewN | apply below_drew1) | exact HB.out)) hb); clear HO_8; clear HB; have HO_8 := n0_; have HO139 := n1_; have HB := n2_; clear n0_ n1_ n2_; (try clear hb); (try clear hb2); (try clear hk); (try clear hi); (try clear ho0))); go_upto_region 24 with (first | (go_at_call 14; (with_reducible refine (money_Split.calls (wrap64 (-a0)) _ _ l1 t136 t137 _ ?side1 ?side2 A52.out (Glob.step G0.out (by repeat (first | (with_reducible first | exact HB.out | apply below_alloc | apply pw_below_drewN | apply below_drew1) | exact HB.out | exact Below.refl _ _)))).mono ?_); (case side1 => repeat (first | exact (Kd.C_below HR1.out HB.out) | (with_reducible refine Kd.C_alloc ?_ _) | (with_reducible refine Kd.C_drewN ?_ _) | (with_reducible refine Kd.C_drew ?_))); (case side2 => exact HC1.out); rintro e w54 ⟨v138, rfl, ho0, hb⟩; have n0_ := Aside0.mk (Kd.R_elder' (by (with_reducible repeat (first | apply Kd.R_alloc | apply Kd.R_drewN | apply Kd.R_drew)); exact HO_8.out) (Kd.R_base ho0) hb); have n1_ := Aside0.mk (Kd.R_lower (Kd.R_new' ho0 (Kd.R_lt (by (with_reducible repeat (first | apply Kd.R_alloc | apply Kd.R_drewN | apply Kd.R_drew)); exact HO_8.out))) (below_size (by repeat (first | (with_reducible first | exact HB.out | apply below_alloc | apply pw_below_drewN | apply below_drew1) | exact HB.out)))); have n2_ := Aside0.mk (below_step (by repeat (first | (with_reducible first | exact HB.out | apply below_alloc | apply pw_below_drewN | apply below_drew1) | exact HB.out)) hb); clear HO_8; clear HB; have HO_8 := n0_; have HO139 := n1_; have HB := n2_; clear n0_ n1_ n2_; (try clear hb); (try clear hb2); (try clear hk); (try clear hi); (try clear ho0))))
                      (try simp only [Act.put, List.setIfInBounds_toArray, List.set_cons_zero, List.set_cons_succ])
                      go_cut [196] (fun v196 wc => ∃ (kq : Nat) (x196_52 : Bool), v196 = .bool x196_52 ∧ Aside0 (daybooklaw01_MoneyShares.j5 kq a0 l1 a2 t104 t108 t136 x196_52 = some r) ∧ Aside0 (kq ≤ k2) ∧ Aside0 (Kd.R (Kd.int .i64) 2 wc w.heap.size (fun k_ => some k_ ≠ (v138 : Value).ownBlock) (.slice Ao14 t104.length co14) t104) ∧ Aside0 (Kd.R (Kd.int .i64) 2 wc w.heap.size (fun k_ => some k_ ≠ ((.slice Ao14 t104.length co14) : Value).ownBlock) v138 t136) ∧ Aside0 (Below w.heap.size w wc))
                      case first =>
                        have H := HC53.out
                        clear HC53
                        by_cases c55 : t137 = 0
                        · rw [if_pos c55] at H
                          have c55b0 : (t137 == 0) = true := beq_iff_eq.mpr c55
                          have c55b1 : (t137 != 0) = false := bne_eq_false_iff_eq.mpr c55
                          clear c55
                          (first | rw [c55b0] | (simp only [i64_w, i32_w]; rw [c55b0]) | skip)
                          have H' := Aside0.mk H
                          clear H
                          obtain ⟨Ao56, co56, eo56⟩ := Kd.R_slice HO139.out
                          subst eo56
                          go_wp2
                          repeat (go_quiet (fail); try go_wp2)
                          go_meet
                          case rel => exact ⟨_, (((t136.length : Int) != (t104.length : Int))), (by first | rfl | (simp; done) | (simp [*]; done)), H', ⟨by have := HJ9.out; have := HK2.out; first | omega | exact Nat.le_refl _⟩, ⟨by (with_reducible repeat (first | apply Kd.R_alloc | apply Kd.R_drewN | apply Kd.R_drew)); exact Kd.R_mono HO_8.out (fun _ hk => hk.2)⟩, ⟨by (with_reducible repeat (first | apply Kd.R_alloc | apply Kd.R_drewN | apply Kd.R_drew)); exact Kd.R_mono HO139.out (fun _ hk => hk.2)⟩, ⟨by repeat (first | (with_reducible first | exact HB.out | apply below_alloc | apply pw_below_drewN | apply below_drew1) | exact HB.out)⟩⟩
                        · rw [if_neg c55] at H
                          have c55b0 : (t137 == 0) = false := beq_eq_false_iff_ne.mpr c55
                          have c55b1 : (t137 != 0) = true := bne_iff_ne.mpr c55
                          (first | rw [c55b0] | (simp only [i64_w, i32_w]; rw [c55b0]) | skip)
                          have H' := Aside0.mk H
                          clear H
                          go_wp2
                          repeat (go_quiet (fail); try go_wp2)
                          go_meet
                          case rel => exact ⟨_, (true), (by first | rfl | (simp; done) | (simp [*]; done)), H', ⟨by have := HJ9.out; have := HK2.out; first | omega | exact Nat.le_refl _⟩, ⟨by (with_reducible repeat (first | apply Kd.R_alloc | apply Kd.R_drewN | apply Kd.R_drew)); exact Kd.R_mono HO_8.out (fun _ hk => hk.2)⟩, ⟨by (with_reducible repeat (first | apply Kd.R_alloc | apply Kd.R_drewN | apply Kd.R_drew)); exact Kd.R_mono HO139.out (fun _ hk => hk.2)⟩, ⟨by repeat (first | (with_reducible first | exact HB.out | apply below_alloc | apply pw_below_drewN | apply below_drew1) | exact HB.out)⟩⟩
                      case rest =>
                        as_aux_lemma =>
                          clear HC53
                          try clear c1
                          try clear p1
                          try clear q1
                          try clear hx1
                          try clear c2
                          try clear p2
                          try clear c3
                          try clear c4
                          try clear c5
                          try clear p6
                          try clear c8
                          try clear c8b0
                          try clear c8b1
                          try clear p11
                          try clear q11
                          try clear hx11
                          try clear p12
                          try clear q12
                          try clear hx12
                          try clear p13
                          try clear q13
                          try clear hx13
                          try clear c16
                          try clear c16b0
                          try clear c16b1
                          try clear c17
                          try clear c17b0
                          try clear c17b1
                          try clear c18
                          try clear c18b0
                          try clear c18b1
                          try clear c19
                          try clear c20
                          try clear c20b0
                          try clear c21
                          try clear c21b0
                          try clear c27
                          try clear c27b0
                          try clear c27b1
                          try clear c28
                          try clear c28b0
                          try clear c28b1
                          try clear c29
                          try clear c29b0
                          try clear c30
                          try clear c30b0
                          try clear c30b1
                          try clear c31
                          try clear c31b0
                          try clear c31b1
                          try clear c32
                          try clear c32b0
                          try clear c32b1
                          try clear c33
                          try clear c33b0
                          try clear c33b1
                          try clear c34
                          try clear c36
                          try clear c36b0
                          try clear c37
                          try clear c38
                          try clear c38b0
                          try clear c39
                          try clear c39b0
                          try clear c40
                          try clear c40b0
                          try clear c41
                          try clear c41b0
                          try clear c42
                          try clear c42b0
                          try clear c43
                          try clear c43b0
                          try clear c44
                          try clear c44b0
                          try clear c45
                          try clear c45b0
                          try clear c46
                          try clear c46b0
                          try clear c47
                          try clear c47b0
                          try clear c48
                          try clear c48b0
                          try clear c49
                          try clear c49b0
                          try clear c50
                          try clear c50b0
                          try clear c51
                          try clear c51b0
                          try clear c55
                          try clear c55b0
                          try clear c55b1
                          try clear hx112_0
                          try clear hx115_0
                          try clear hx118_0
                          try clear hx119_0
                          try clear hx120_0
                          try clear hx121_0
                          try clear hx122_0
                          try clear hx123_0
                          try clear hx124_0
                          try clear hx125_0
                          try clear hx126_0
                          try clear hx127_0
                          try clear hx128_0
                          try clear hx129_0
                          try clear hx130_0
                          try clear hx131_0
                          try clear hx132_0
                          try clear hx133_0
                          try clear hx134_0
                          try clear hx135_0
                          try clear p1
                          try clear p11
                          try clear p112
                          try clear p115
                          try clear p118
                          try clear p119
                          try clear p12
                          try clear p120
                          try clear p121
                          try clear p122
                          try clear p123
                          try clear p124
                          try clear p125
                          try clear p126
                          try clear p127
                          try clear p128
                          try clear p129
                          try clear p130
                          try clear p131
                          try clear p132
                          try clear p133
                          try clear p134
                          try clear p135
                          try clear p2
                          try clear q1
                          try clear q11
                          try clear q112
                          try clear q115
                          try clear q118
                          try clear q119
                          try clear q12
                          try clear q120
                          try clear q121
                          try clear q122
                          try clear q123
                          try clear q124
                          try clear q125
                          try clear q126
                          try clear q127
                          try clear q128
                          try clear q129
                          try clear q130
                          try clear q131
                          try clear q132
                          try clear q133
                          try clear q134
                          try clear q135
                          obtain ⟨kq, x196_52, rfl, HA, HJ52, HO_8, HO_20, HB⟩ := hcut
                          cases kq with
                          | zero => exact absurd HA.out (by simp [daybooklaw01_MoneyShares.j5])
                          | succ kj52 =>
                            have H := HA.out
                            clear HA
                            simp only [daybooklaw01_MoneyShares.j5] at H
                            by_cases c57 : x196_52 = true
                            · subst c57
                              have H1 : (some false) = some r := by rw [if_pos rfl] at H; exact H
                              clear H
                              have H := H1
                              clear H1
                              obtain rfl := Option.some.inj H
                              go_wp2
                              repeat (go_quiet (fail); try go_wp2)
                              go_ret
                              exact ⟨by first | rfl | (simp [errW_none, errW_some] <;> rfl) | (simp [*, errW_none, errW_some] <;> rfl), by repeat (first | (with_reducible first | exact HB.out | apply below_alloc | apply pw_below_drewN | apply below_drew1) | exact HB.out)⟩
                            · replace c57 := Bool.eq_false_iff.mpr c57
                              subst c57
                              have H1 : (daybooklaw01_MoneyShares.l2 kj52 a0 l1 a2 t104 t108 t136 0) = some r := by rw [if_neg (show ¬ (false = true) by decide)] at H; exact H
                              clear H
                              have H := H1
                              clear H1
                              have H' := Aside0.mk H
                              clear H
                              go_wp2
                              repeat (go_quiet (fail); try go_wp2)
                              go_loopg [21] kj52 (fun kq v21 w' => ∃ (x21_4 : Int), v21 = .int .i64 x21_4 ∧ Aside0 (daybooklaw01_MoneyShares.l2 kq a0 l1 a2 t104 t108 t136 x21_4 = some r) ∧ Aside0 (kq ≤ kj52) ∧ Aside0 (Kd.R (Kd.int .i64) 2 w' w.heap.size (fun k_ => some k_ ≠ (v138 : Value).ownBlock) (.slice Ao14 t104.length co14) t104) ∧ Aside0 (Kd.R (Kd.int .i64) 2 w' w.heap.size (fun k_ => some k_ ≠ ((.slice Ao14 t104.length co14) : Value).ownBlock) v138 t136) ∧ Aside0 (Below w.heap.size w w'))
                              case atStart => exact ⟨(0), (by first | rfl | (simp; done) | (simp [*]; done)), H', ⟨Nat.le_refl _⟩, ⟨by (with_reducible repeat (first | apply Kd.R_alloc | apply Kd.R_drewN | apply Kd.R_drew)); exact HO_8.out⟩, ⟨by (with_reducible repeat (first | apply Kd.R_alloc | apply Kd.R_drewN | apply Kd.R_drew)); exact HO_20.out⟩, ⟨by repeat (first | (with_reducible first | exact HB.out | apply below_alloc | apply pw_below_drewN | apply below_drew1) | exact HB.out)⟩⟩
                              case round =>
                                as_aux_lemma =>
                                  clear H'
                                  try clear c1
                                  try clear p1
                                  try clear q1
                                  try clear hx1
                                  try clear c2
                                  try clear p2
                                  try clear c3
                                  try clear c4
                                  try clear c5
                                  try clear p6
                                  try clear c8
                                  try clear c8b0
                                  try clear c8b1
                                  try clear p11
                                  try clear q11
                                  try clear hx11
                                  try clear p12
                                  try clear q12
                                  try clear hx12
                                  try clear p13
                                  try clear q13
                                  try clear hx13
                                  try clear c16
                                  try clear c16b0
                                  try clear c16b1
                                  try clear c17
                                  try clear c17b0
                                  try clear c17b1
                                  try clear c18
                                  try clear c18b0
                                  try clear c18b1
                                  try clear c19
                                  try clear c20
                                  try clear c20b0
                                  try clear c21
                                  try clear c21b0
                                  try clear c27
                                  try clear c27b0
                                  try clear c27b1
                                  try clear c28
                                  try clear c28b0
                                  try clear c28b1
                                  try clear c29
                                  try clear c29b0
                                  try clear c30
                                  try clear c30b0
                                  try clear c30b1
                                  try clear c31
                                  try clear c31b0
                                  try clear c31b1
                                  try clear c32
                                  try clear c32b0
                                  try clear c32b1
                                  try clear c33
                                  try clear c33b0
                                  try clear c33b1
                                  try clear c34
                                  try clear c36
                                  try clear c36b0
                                  try clear c37
                                  try clear c38
                                  try clear c38b0
                                  try clear c39
                                  try clear c39b0
                                  try clear c40
                                  try clear c40b0
                                  try clear c41
                                  try clear c41b0
                                  try clear c42
                                  try clear c42b0
                                  try clear c43
                                  try clear c43b0
                                  try clear c44
                                  try clear c44b0
                                  try clear c45
                                  try clear c45b0
                                  try clear c46
                                  try clear c46b0
                                  try clear c47
                                  try clear c47b0
                                  try clear c48
                                  try clear c48b0
                                  try clear c49
                                  try clear c49b0
                                  try clear c50
                                  try clear c50b0
                                  try clear c51
                                  try clear c51b0
                                  try clear c55
                                  try clear c55b0
                                  try clear c55b1
                                  try clear c57
                                  try clear hx112_0
                                  try clear hx115_0
                                  try clear hx118_0
                                  try clear hx119_0
                                  try clear hx120_0
                                  try clear hx121_0
                                  try clear hx122_0
                                  try clear hx123_0
                                  try clear hx124_0
                                  try clear hx125_0
                                  try clear hx126_0
                                  try clear hx127_0
                                  try clear hx128_0
                                  try clear hx129_0
                                  try clear hx130_0
                                  try clear hx131_0
                                  try clear hx132_0
                                  try clear hx133_0
                                  try clear hx134_0
                                  try clear hx135_0
                                  try clear p1
                                  try clear p11
                                  try clear p112
                                  try clear p115
                                  try clear p118
                                  try clear p119
                                  try clear p12
                                  try clear p120
                                  try clear p121
                                  try clear p122
                                  try clear p123
                                  try clear p124
                                  try clear p125
                                  try clear p126
                                  try clear p127
                                  try clear p128
                                  try clear p129
                                  try clear p13
                                  try clear p130
                                  try clear p131
                                  try clear p132
                                  try clear p133
                                  try clear p134
                                  try clear p135
                                  try clear p2
                                  try clear p6
                                  try clear q1
                                  try clear q11
                                  try clear q112
                                  try clear q115
                                  try clear q118
                                  try clear q119
                                  try clear q12
                                  try clear q120
                                  try clear q121
                                  try clear q122
                                  try clear q123
                                  try clear q124
                                  try clear q125
                                  try clear q126
                                  try clear q127
                                  try clear q128
                                  try clear q129
                                  try clear q13
                                  try clear q130
                                  try clear q131
                                  try clear q132
                                  try clear q133
                                  try clear q134
                                  try clear q135
                                  obtain ⟨x21_4, rfl, HA, HK4, HO_8, HO_20, HB⟩ := hrel
                                  cases gk with
                                  | zero => exact absurd HA.out (by simp [daybooklaw01_MoneyShares.l2])
                                  | succ k4 =>
                                    have H := HA.out
                                    clear HA
                                    simp only [daybooklaw01_MoneyShares.l2] at H
                                    by_cases c58 : x21_4 < (t136.length : Int)
                                    · rw [if_pos c58] at H
                                      have c58b0 : decide (x21_4 < (t136.length : Int)) = true := decide_eq_true c58
                                      clear c58
                                      by_cases c59 : 0 ≤ x21_4
                                      · rw [if_pos c59] at H
                                        have c59b0 : decide (0 ≤ x21_4) = true := decide_eq_true c59
                                        clear c59
                                        by_cases c60 : x21_4 < (t104.length : Int)
                                        · rw [if_pos c60] at H
                                          have c60b0 : decide (x21_4 < (t104.length : Int)) = true := decide_eq_true c60
                                          clear c60
                                          by_cases c61 : (rd t136 x21_4) = (wrap64 (-(rd t104 x21_4)))
                                          · rw [if_pos c61] at H
                                            have c61b0 : ((rd t136 x21_4) == (wrap64 (-(rd t104 x21_4)))) = true := beq_iff_eq.mpr c61
                                            have c61b1 : ((rd t136 x21_4) != (wrap64 (-(rd t104 x21_4)))) = false := bne_eq_false_iff_eq.mpr c61
                                            clear c61
                                            have H' := Aside0.mk H
                                            clear H
                                            obtain ⟨Ao62, co62, eo62⟩ := Kd.R_slice HO_20.out
                                            subst eo62
                                            have p140 : 0 ≤ (x21_4 : Int) := of_decide_eq_true (by first | (with_reducible assumption) | assumption)
                                            have q140 : x21_4 < (t136.length : Int) := of_decide_eq_true (by first | (with_reducible assumption) | assumption)
                                            obtain ⟨ad140, e140, hx140_0⟩ := Kd.at_int (Kd.R_reads' HO_20.out).2.2 x21_4 p140 q140
                                            cases e140
                                            replace p140 := eq_true p140
                                            replace q140 := eq_true q140
                                            have p141 : 0 ≤ (x21_4 : Int) := of_decide_eq_true (by first | (with_reducible assumption) | assumption)
                                            have q141 : x21_4 < (t104.length : Int) := of_decide_eq_true (by first | (with_reducible assumption) | assumption)
                                            obtain ⟨ad141, e141, hx141_0⟩ := Kd.at_int (Kd.R_reads' HO_8.out).2.2 x21_4 p141 q141
                                            cases e141
                                            replace p141 := eq_true p141
                                            replace q141 := eq_true q141
                                            go_wp2
                                            repeat (go_quiet (fail); try go_wp2)
                                            go_roundg k4
                                            case measure => have := HJ9.out; have := HK2.out; have := HJ52.out; have := HK4.out; omega
                                            case rel => exact ⟨(wrap64 (x21_4 + 1)), (by first | rfl | (simp; done) | (simp [*]; done)), H', ⟨by have := HJ9.out; have := HK2.out; have := HJ52.out; have := HK4.out; omega⟩, ⟨by (with_reducible repeat (first | apply Kd.R_alloc | apply Kd.R_drewN | apply Kd.R_drew)); exact HO_8.out⟩, ⟨by (with_reducible repeat (first | apply Kd.R_alloc | apply Kd.R_drewN | apply Kd.R_drew)); exact HO_20.out⟩, ⟨by repeat (first | (with_reducible first | exact HB.out | apply below_alloc | apply pw_below_drewN | apply below_drew1) | exact HB.out)⟩⟩
                                          · rw [if_neg c61] at H
                                            have c61b0 : ((rd t136 x21_4) == (wrap64 (-(rd t104 x21_4)))) = false := beq_eq_false_iff_ne.mpr c61
                                            have c61b1 : ((rd t136 x21_4) != (wrap64 (-(rd t104 x21_4)))) = true := bne_iff_ne.mpr c61
                                            obtain rfl := Option.some.inj H
                                            obtain ⟨Ao63, co63, eo63⟩ := Kd.R_slice HO_20.out
                                            subst eo63
                                            have p140 : 0 ≤ (x21_4 : Int) := of_decide_eq_true (by first | (with_reducible assumption) | assumption)
                                            have q140 : x21_4 < (t136.length : Int) := of_decide_eq_true (by first | (with_reducible assumption) | assumption)
                                            obtain ⟨ad140, e140, hx140_0⟩ := Kd.at_int (Kd.R_reads' HO_20.out).2.2 x21_4 p140 q140
                                            cases e140
                                            replace p140 := eq_true p140
                                            replace q140 := eq_true q140
                                            have p141 : 0 ≤ (x21_4 : Int) := of_decide_eq_true (by first | (with_reducible assumption) | assumption)
                                            have q141 : x21_4 < (t104.length : Int) := of_decide_eq_true (by first | (with_reducible assumption) | assumption)
                                            obtain ⟨ad141, e141, hx141_0⟩ := Kd.at_int (Kd.R_reads' HO_8.out).2.2 x21_4 p141 q141
                                            cases e141
                                            replace p141 := eq_true p141
                                            replace q141 := eq_true q141
                                            go_wp2
                                            repeat (go_quiet (fail); try go_wp2)
                                            go_ret
                                            exact ⟨by first | rfl | (simp [errW_none, errW_some] <;> rfl) | (simp [*, errW_none, errW_some] <;> rfl), by repeat (first | (with_reducible first | exact HB.out | apply below_alloc | apply pw_below_drewN | apply below_drew1) | exact HB.out)⟩
                                        · rw [if_neg c60] at H
                                          exact absurd H (by simp)
                                      · rw [if_neg c59] at H
                                        exact absurd H (by simp)
                                    · rw [if_neg c58] at H
                                      have c58b0 : decide (x21_4 < (t136.length : Int)) = false := decide_eq_false c58
                                      clear c58
                                      replace H := Option.bind_eq_some_iff.mp H
                                      obtain ⟨⟨t142, t143⟩, A640, H⟩ := H
                                      replace H : (if a2 < 1 then (daybooklaw01_MoneyShares.j7 k4 a0 l1 a2 t104 true) else (if t143 = 0 then (daybooklaw01_MoneyShares.j7 k4 a0 l1 a2 t104 (decide (t142 < 1))) else (daybooklaw01_MoneyShares.j7 k4 a0 l1 a2 t104 true))) = some r := H
                                      have A64 := Aside0.mk A640
                                      clear A640
                                      have HC65 := Aside0.mk H
                                      clear H
                                      obtain ⟨Ao66, co66, eo66⟩ := Kd.R_slice HO_20.out
                                      subst eo66
                                      go_upto_region 32 with (first | (go_at_call 16; (with_reducible refine (money_Mul.calls t108 a2 t142 t143 _ A64.out (Glob.step G0.out (by repeat (first | (with_reducible first | exact HB.out | apply below_alloc | apply pw_below_drewN | apply below_drew1) | exact HB.out | exact Below.refl _ _)))).mono ?_); rintro e w67 ⟨rfl, hb⟩; have n0_ := Aside0.mk (Kd.R_below (by (with_reducible repeat (first | apply Kd.R_alloc | apply Kd.R_drewN | apply Kd.R_drew)); exact HO_8.out) hb); have n1_ := Aside0.mk (Kd.R_below (by (with_reducible repeat (first | apply Kd.R_alloc | apply Kd.R_drewN | apply Kd.R_drew)); exact HO_20.out) hb); have n2_ := Aside0.mk (below_step (by repeat (first | (with_reducible first | exact HB.out | apply below_alloc | apply pw_below_drewN | apply below_drew1) | exact HB.out)) hb); clear HO_8; clear HO_20; clear HB; have HO_8 := n0_; have HO_20 := n1_; have HB := n2_; clear n0_ n1_ n2_; (try clear hb); (try clear hb2); (try clear hk); (try clear hi)))
                                      repeat (go_quiet (first | (go_at_call 16; (with_reducible refine (money_Mul.calls t108 a2 t142 t143 _ A64.out (Glob.step G0.out (by repeat (first | (with_reducible first | exact HB.out | apply below_alloc | apply pw_below_drewN | apply below_drew1) | exact HB.out | exact Below.refl _ _)))).mono ?_); rintro e w67 ⟨rfl, hb⟩; have n0_ := Aside0.mk (Kd.R_below (by (with_reducible repeat (first | apply Kd.R_alloc | apply Kd.R_drewN | apply Kd.R_drew)); exact HO_8.out) hb); have n1_ := Aside0.mk (Kd.R_below (by (with_reducible repeat (first | apply Kd.R_alloc | apply Kd.R_drewN | apply Kd.R_drew)); exact HO_20.out) hb); have n2_ := Aside0.mk (below_step (by repeat (first | (with_reducible first | exact HB.out | apply below_alloc | apply pw_below_drewN | apply below_drew1) | exact HB.out)) hb); clear HO_8; clear HO_20; clear HB; have HO_8 := n0_; have HO_20 := n1_; have HB := n2_; clear n0_ n1_ n2_; (try clear hb); (try clear hb2); (try clear hk); (try clear hi))); go_upto_region 32 with (first | (go_at_call 16; (with_reducible refine (money_Mul.calls t108 a2 t142 t143 _ A64.out (Glob.step G0.out (by repeat (first | (with_reducible first | exact HB.out | apply below_alloc | apply pw_below_drewN | apply below_drew1) | exact HB.out | exact Below.refl _ _)))).mono ?_); rintro e w67 ⟨rfl, hb⟩; have n0_ := Aside0.mk (Kd.R_below (by (with_reducible repeat (first | apply Kd.R_alloc | apply Kd.R_drewN | apply Kd.R_drew)); exact HO_8.out) hb); have n1_ := Aside0.mk (Kd.R_below (by (with_reducible repeat (first | apply Kd.R_alloc | apply Kd.R_drewN | apply Kd.R_drew)); exact HO_20.out) hb); have n2_ := Aside0.mk (below_step (by repeat (first | (with_reducible first | exact HB.out | apply below_alloc | apply pw_below_drewN | apply below_drew1) | exact HB.out)) hb); clear HO_8; clear HO_20; clear HB; have HO_8 := n0_; have HO_20 := n1_; have HB := n2_; clear n0_ n1_ n2_; (try clear hb); (try clear hb2); (try clear hk); (try clear hi))))
                                      (try simp only [Act.put, List.setIfInBounds_toArray, List.set_cons_zero, List.set_cons_succ])
                                      go_cut [228] (fun v228 wc => ∃ (kq : Nat) (x228_64 : Bool), v228 = .bool x228_64 ∧ Aside0 (daybooklaw01_MoneyShares.j7 kq a0 l1 a2 t104 x228_64 = some r) ∧ Aside0 (kq ≤ k4) ∧ Aside0 (Kd.R (Kd.int .i64) 2 wc w.heap.size (fun _ => True) (.slice Ao14 t104.length co14) t104) ∧ Aside0 (Below w.heap.size w wc))
                                      case first =>
                                        have H := HC65.out
                                        clear HC65
                                        by_cases c68 : a2 < 1
                                        · rw [if_pos c68] at H
                                          have c68b0 : decide (a2 < 1) = true := decide_eq_true c68
                                          clear c68
                                          (first | rw [c68b0] | (simp only [i64_w, i32_w]; rw [c68b0]) | skip)
                                          have H' := Aside0.mk H
                                          clear H
                                          go_wp2
                                          repeat (go_quiet (fail); try go_wp2)
                                          go_meet
                                          case rel => exact ⟨_, (true), (by first | rfl | (simp; done) | (simp [*]; done)), H', ⟨by have := HJ9.out; have := HK2.out; have := HJ52.out; have := HK4.out; first | omega | exact Nat.le_refl _⟩, ⟨by (with_reducible repeat (first | apply Kd.R_alloc | apply Kd.R_drewN | apply Kd.R_drew)); exact Kd.R_mono HO_8.out (fun _ hk => trivial)⟩, ⟨by repeat (first | (with_reducible first | exact HB.out | apply below_alloc | apply pw_below_drewN | apply below_drew1) | exact HB.out)⟩⟩
                                        · rw [if_neg c68] at H
                                          have c68b0 : decide (a2 < 1) = false := decide_eq_false c68
                                          clear c68
                                          (first | rw [c68b0] | (simp only [i64_w, i32_w]; rw [c68b0]) | skip)
                                          by_cases c69 : t143 = 0
                                          · rw [if_pos c69] at H
                                            have c69b0 : (t143 == 0) = true := beq_iff_eq.mpr c69
                                            have c69b1 : (t143 != 0) = false := bne_eq_false_iff_eq.mpr c69
                                            clear c69
                                            have H' := Aside0.mk H
                                            clear H
                                            go_wp2
                                            repeat (go_quiet (fail); try go_wp2)
                                            go_meet
                                            case rel => exact ⟨_, (decide (t142 < 1)), (by first | rfl | (simp; done) | (simp [*]; done)), H', ⟨by have := HJ9.out; have := HK2.out; have := HJ52.out; have := HK4.out; first | omega | exact Nat.le_refl _⟩, ⟨by (with_reducible repeat (first | apply Kd.R_alloc | apply Kd.R_drewN | apply Kd.R_drew)); exact Kd.R_mono HO_8.out (fun _ hk => trivial)⟩, ⟨by repeat (first | (with_reducible first | exact HB.out | apply below_alloc | apply pw_below_drewN | apply below_drew1) | exact HB.out)⟩⟩
                                          · rw [if_neg c69] at H
                                            have c69b0 : (t143 == 0) = false := beq_eq_false_iff_ne.mpr c69
                                            have c69b1 : (t143 != 0) = true := bne_iff_ne.mpr c69
                                            have H' := Aside0.mk H
                                            clear H
                                            go_wp2
                                            repeat (go_quiet (fail); try go_wp2)
                                            go_meet
                                            case rel => exact ⟨_, (true), (by first | rfl | (simp; done) | (simp [*]; done)), H', ⟨by have := HJ9.out; have := HK2.out; have := HJ52.out; have := HK4.out; first | omega | exact Nat.le_refl _⟩, ⟨by (with_reducible repeat (first | apply Kd.R_alloc | apply Kd.R_drewN | apply Kd.R_drew)); exact Kd.R_mono HO_8.out (fun _ hk => trivial)⟩, ⟨by repeat (first | (with_reducible first | exact HB.out | apply below_alloc | apply pw_below_drewN | apply below_drew1) | exact HB.out)⟩⟩
                                      case rest =>
                                        as_aux_lemma =>
                                          clear HC65
                                          try clear c1
                                          try clear p1
                                          try clear q1
                                          try clear hx1
                                          try clear c2
                                          try clear p2
                                          try clear c3
                                          try clear c4
                                          try clear c5
                                          try clear c6
                                          try clear p6
                                          try clear c8
                                          try clear c8b0
                                          try clear c8b1
                                          try clear p11
                                          try clear q11
                                          try clear hx11
                                          try clear p12
                                          try clear q12
                                          try clear hx12
                                          try clear p13
                                          try clear q13
                                          try clear hx13
                                          try clear p14
                                          try clear q14
                                          try clear hx14
                                          try clear c16
                                          try clear c16b0
                                          try clear c16b1
                                          try clear c17
                                          try clear c17b0
                                          try clear c17b1
                                          try clear c18
                                          try clear c18b0
                                          try clear c18b1
                                          try clear c19
                                          try clear c20
                                          try clear c20b0
                                          try clear c21
                                          try clear c21b0
                                          try clear c27
                                          try clear c27b0
                                          try clear c27b1
                                          try clear c28
                                          try clear c28b0
                                          try clear c28b1
                                          try clear c29
                                          try clear c29b0
                                          try clear c30
                                          try clear c30b0
                                          try clear c30b1
                                          try clear c31
                                          try clear c31b0
                                          try clear c31b1
                                          try clear c32
                                          try clear c32b0
                                          try clear c32b1
                                          try clear c33
                                          try clear c33b0
                                          try clear c33b1
                                          try clear c34
                                          try clear c36
                                          try clear c36b0
                                          try clear c37
                                          try clear c38
                                          try clear c38b0
                                          try clear c39
                                          try clear c39b0
                                          try clear c40
                                          try clear c40b0
                                          try clear c41
                                          try clear c41b0
                                          try clear c42
                                          try clear c42b0
                                          try clear c43
                                          try clear c43b0
                                          try clear c44
                                          try clear c44b0
                                          try clear c45
                                          try clear c45b0
                                          try clear c46
                                          try clear c46b0
                                          try clear c47
                                          try clear c47b0
                                          try clear c48
                                          try clear c48b0
                                          try clear c49
                                          try clear c49b0
                                          try clear c50
                                          try clear c50b0
                                          try clear c51
                                          try clear c51b0
                                          try clear c55
                                          try clear c55b0
                                          try clear c55b1
                                          try clear c57
                                          try clear c58
                                          try clear c58b0
                                          try clear c59
                                          try clear c59b0
                                          try clear c60
                                          try clear c60b0
                                          try clear c61
                                          try clear c61b0
                                          try clear c61b1
                                          try clear p64
                                          try clear c68
                                          try clear c68b0
                                          try clear c69
                                          try clear c69b0
                                          try clear c69b1
                                          try clear hx112_0
                                          try clear hx115_0
                                          try clear hx118_0
                                          try clear hx119_0
                                          try clear hx120_0
                                          try clear hx121_0
                                          try clear hx122_0
                                          try clear hx123_0
                                          try clear hx124_0
                                          try clear hx125_0
                                          try clear hx126_0
                                          try clear hx127_0
                                          try clear hx128_0
                                          try clear hx129_0
                                          try clear hx130_0
                                          try clear hx131_0
                                          try clear hx132_0
                                          try clear hx133_0
                                          try clear hx134_0
                                          try clear hx135_0
                                          try clear hx140_0
                                          try clear hx141_0
                                          try clear p1
                                          try clear p11
                                          try clear p112
                                          try clear p115
                                          try clear p118
                                          try clear p119
                                          try clear p12
                                          try clear p120
                                          try clear p121
                                          try clear p122
                                          try clear p123
                                          try clear p124
                                          try clear p125
                                          try clear p126
                                          try clear p127
                                          try clear p128
                                          try clear p129
                                          try clear p13
                                          try clear p130
                                          try clear p131
                                          try clear p132
                                          try clear p133
                                          try clear p134
                                          try clear p135
                                          try clear p140
                                          try clear p141
                                          try clear p2
                                          try clear p6
                                          try clear q1
                                          try clear q11
                                          try clear q112
                                          try clear q115
                                          try clear q118
                                          try clear q119
                                          try clear q12
                                          try clear q120
                                          try clear q121
                                          try clear q122
                                          try clear q123
                                          try clear q124
                                          try clear q125
                                          try clear q126
                                          try clear q127
                                          try clear q128
                                          try clear q129
                                          try clear q13
                                          try clear q130
                                          try clear q131
                                          try clear q132
                                          try clear q133
                                          try clear q134
                                          try clear q135
                                          try clear q140
                                          try clear q141
                                          obtain ⟨kq, x228_64, rfl, HA, HJ64, HO_8, HB⟩ := hcut
                                          cases kq with
                                          | zero => exact absurd HA.out (by simp [daybooklaw01_MoneyShares.j7])
                                          | succ kj64 =>
                                            have H := HA.out
                                            clear HA
                                            simp only [daybooklaw01_MoneyShares.j7] at H
                                            by_cases c70 : x228_64 = true
                                            · subst c70
                                              have H1 : (some true) = some r := by rw [if_pos rfl] at H; exact H
                                              clear H
                                              have H := H1
                                              clear H1
                                              obtain rfl := Option.some.inj H
                                              go_wp2
                                              repeat (go_quiet (fail); try go_wp2)
                                              go_ret
                                              exact ⟨by first | rfl | (simp [errW_none, errW_some] <;> rfl) | (simp [*, errW_none, errW_some] <;> rfl), by repeat (first | (with_reducible first | exact HB.out | apply below_alloc | apply pw_below_drewN | apply below_drew1) | exact HB.out)⟩
                                            · replace c70 := Bool.eq_false_iff.mpr c70
                                              subst c70
                                              have H1 : (daybooklaw01_MoneyShares.l3 kj64 a0 l1 a2 t104 ([] : List Int) 0) = some r := by rw [if_neg (show ¬ (false = true) by decide)] at H; exact H
                                              clear H
                                              have H := H1
                                              clear H1
                                              have H' := Aside0.mk H
                                              clear H
                                              go_wp2
                                              repeat (go_quiet (fail); try go_wp2)
                                              go_loopg [23, 24] kj64 (fun kq v23 v24 w' => ∃ (x23_6 : List Int) (x24_6 : Int), v24 = .int .i64 x24_6 ∧ Aside0 (daybooklaw01_MoneyShares.l3 kq a0 l1 a2 t104 x23_6 x24_6 = some r) ∧ Aside0 (kq ≤ kj64) ∧ Aside0 (Kd.R (Kd.int .i64) 2 w' w.heap.size (fun k_ => some k_ ≠ (v23 : Value).ownBlock) (.slice Ao14 t104.length co14) t104) ∧ Aside0 (Kd.R (Kd.int .i64) 2 w' w.heap.size (fun k_ => some k_ ≠ ((.slice Ao14 t104.length co14) : Value).ownBlock) v23 x23_6) ∧ Aside0 (Below w.heap.size w w'))
                                              case atStart => exact ⟨(([] : List Int)), (0), (by first | rfl | (simp; done) | (simp [*]; done)), H', ⟨Nat.le_refl _⟩, ⟨by (with_reducible repeat (first | apply Kd.R_alloc | apply Kd.R_drewN | apply Kd.R_drew)); exact Kd.R_mono HO_8.out (fun _ hk => (by simp [Value.ownBlock]))⟩, ⟨by first | exact Kd.R_nil _ _ _ _ _ | exact Kd.N_nil _ _ _ _ _ | exact Kd.V_nil _ _ _ _ _ | exact Kd.Q_nil _ _ _ _ _ | exact Kd.S_nil _ _ _ _ _⟩, ⟨by repeat (first | (with_reducible first | exact HB.out | apply below_alloc | apply pw_below_drewN | apply below_drew1) | exact HB.out)⟩⟩
                                              case round =>
                                                as_aux_lemma =>
                                                  clear H'
                                                  try clear c1
                                                  try clear p1
                                                  try clear q1
                                                  try clear hx1
                                                  try clear c2
                                                  try clear p2
                                                  try clear c3
                                                  try clear c4
                                                  try clear c5
                                                  try clear c6
                                                  try clear p6
                                                  try clear c7
                                                  try clear c8
                                                  try clear c8b0
                                                  try clear c8b1
                                                  try clear p11
                                                  try clear q11
                                                  try clear hx11
                                                  try clear p12
                                                  try clear q12
                                                  try clear hx12
                                                  try clear p13
                                                  try clear q13
                                                  try clear hx13
                                                  try clear p14
                                                  try clear q14
                                                  try clear hx14
                                                  try clear c16
                                                  try clear c16b0
                                                  try clear c16b1
                                                  try clear c17
                                                  try clear c17b0
                                                  try clear c17b1
                                                  try clear c18
                                                  try clear c18b0
                                                  try clear c18b1
                                                  try clear c19
                                                  try clear c20
                                                  try clear c20b0
                                                  try clear c21
                                                  try clear c21b0
                                                  try clear c27
                                                  try clear c27b0
                                                  try clear c27b1
                                                  try clear c28
                                                  try clear c28b0
                                                  try clear c28b1
                                                  try clear c29
                                                  try clear c29b0
                                                  try clear c30
                                                  try clear c30b0
                                                  try clear c30b1
                                                  try clear c31
                                                  try clear c31b0
                                                  try clear c31b1
                                                  try clear c32
                                                  try clear c32b0
                                                  try clear c32b1
                                                  try clear c33
                                                  try clear c33b0
                                                  try clear c33b1
                                                  try clear c34
                                                  try clear c36
                                                  try clear c36b0
                                                  try clear c37
                                                  try clear c38
                                                  try clear c38b0
                                                  try clear c39
                                                  try clear c39b0
                                                  try clear c40
                                                  try clear c40b0
                                                  try clear c41
                                                  try clear c41b0
                                                  try clear c42
                                                  try clear c42b0
                                                  try clear c43
                                                  try clear c43b0
                                                  try clear c44
                                                  try clear c44b0
                                                  try clear c45
                                                  try clear c45b0
                                                  try clear c46
                                                  try clear c46b0
                                                  try clear c47
                                                  try clear c47b0
                                                  try clear c48
                                                  try clear c48b0
                                                  try clear c49
                                                  try clear c49b0
                                                  try clear c50
                                                  try clear c50b0
                                                  try clear c51
                                                  try clear c51b0
                                                  try clear c55
                                                  try clear c55b0
                                                  try clear c55b1
                                                  try clear c57
                                                  try clear c58
                                                  try clear c58b0
                                                  try clear c59
                                                  try clear c59b0
                                                  try clear c60
                                                  try clear c60b0
                                                  try clear c61
                                                  try clear c61b0
                                                  try clear c61b1
                                                  try clear p64
                                                  try clear c68
                                                  try clear c68b0
                                                  try clear c69
                                                  try clear c69b0
                                                  try clear c69b1
                                                  try clear c70
                                                  try clear hx112_0
                                                  try clear hx115_0
                                                  try clear hx118_0
                                                  try clear hx119_0
                                                  try clear hx120_0
                                                  try clear hx121_0
                                                  try clear hx122_0
                                                  try clear hx123_0
                                                  try clear hx124_0
                                                  try clear hx125_0
                                                  try clear hx126_0
                                                  try clear hx127_0
                                                  try clear hx128_0
                                                  try clear hx129_0
                                                  try clear hx130_0
                                                  try clear hx131_0
                                                  try clear hx132_0
                                                  try clear hx133_0
                                                  try clear hx134_0
                                                  try clear hx135_0
                                                  try clear hx140_0
                                                  try clear hx141_0
                                                  try clear p1
                                                  try clear p11
                                                  try clear p112
                                                  try clear p115
                                                  try clear p118
                                                  try clear p119
                                                  try clear p12
                                                  try clear p120
                                                  try clear p121
                                                  try clear p122
                                                  try clear p123
                                                  try clear p124
                                                  try clear p125
                                                  try clear p126
                                                  try clear p127
                                                  try clear p128
                                                  try clear p129
                                                  try clear p13
                                                  try clear p130
                                                  try clear p131
                                                  try clear p132
                                                  try clear p133
                                                  try clear p134
                                                  try clear p135
                                                  try clear p14
                                                  try clear p140
                                                  try clear p141
                                                  try clear p2
                                                  try clear p6
                                                  try clear p64
                                                  try clear q1
                                                  try clear q11
                                                  try clear q112
                                                  try clear q115
                                                  try clear q118
                                                  try clear q119
                                                  try clear q12
                                                  try clear q120
                                                  try clear q121
                                                  try clear q122
                                                  try clear q123
                                                  try clear q124
                                                  try clear q125
                                                  try clear q126
                                                  try clear q127
                                                  try clear q128
                                                  try clear q129
                                                  try clear q13
                                                  try clear q130
                                                  try clear q131
                                                  try clear q132
                                                  try clear q133
                                                  try clear q134
                                                  try clear q135
                                                  try clear q14
                                                  try clear q140
                                                  try clear q141
                                                  obtain ⟨x23_6, x24_6, rfl, HA, HK6, HO_8, HO_23, HB⟩ := hrel
                                                  cases gk with
                                                  | zero => exact absurd HA.out (by simp [daybooklaw01_MoneyShares.l3])
                                                  | succ k6 =>
                                                    have H := HA.out
                                                    clear HA
                                                    simp only [daybooklaw01_MoneyShares.l3] at H
                                                    by_cases c71 : x24_6 < (l1.length : Int)
                                                    · rw [if_pos c71] at H
                                                      have c71b0 : decide (x24_6 < (l1.length : Int)) = true := decide_eq_true c71
                                                      clear c71
                                                      by_cases c72 : 0 ≤ x24_6
                                                      · rw [if_pos c72] at H
                                                        have c72b0 : decide (0 ≤ x24_6) = true := decide_eq_true c72
                                                        clear c72
                                                        by_cases c73 : x23_6.length < 17592186044416
                                                        · rw [if_pos c73] at H
                                                          have LMc73 := Aside0.mk c73
                                                          clear c73
                                                          obtain ⟨y145, hy145⟩ : ∃ y_ : List Int, y_ = (x23_6 ++ [wrap64 ((rd l1 x24_6) * a2)]) := ⟨_, rfl⟩
                                                          replace H : (daybooklaw01_MoneyShares.l3 k6 a0 l1 a2 t104 y145 (wrap64 (x24_6 + 1))) = some r := by first | (rw [hy145]; with_reducible exact H) | (have H2_ := (Option.bind_some _ _).symm.trans H; rw [hy145]; with_reducible exact H2_) | (have H2_ := (Option.bind_some _ _).symm.trans H; with_reducible exact H2_) | with_reducible exact H | (rw [hy145]; exact H) | exact H
                                                          have Ny145 := Aside0.mk hy145
                                                          clear hy145
                                                          have H' := Aside0.mk H
                                                          clear H
                                                          have p144 : 0 ≤ (x24_6 : Int) := of_decide_eq_true (by first | (with_reducible assumption) | assumption)
                                                          have q144 : x24_6 < (l1.length : Int) := of_decide_eq_true (by first | (with_reducible assumption) | assumption)
                                                          obtain ⟨ad144, e144, hx144_0⟩ := Kd.at_int HR1.out x24_6 p144 q144
                                                          cases e144
                                                          replace hx144_0 := (HB.out.cell (World.block_lt_of_cell? w _ hx144_0)).trans hx144_0
                                                          replace p144 := eq_true p144
                                                          replace q144 := eq_true q144
                                                          go_wp2_with (first | ((with_reducible refine gate_builtin (b := .append) (xs := #[.tmp 235, .tmp 242]) rfl ?_); (try (refine gate_guard (by rfl) ?_; dsimp only)); at_builtin; refine Kd.R_append (Kd.int .i64) (w0 := w) w.heap.size rfl (.tmp 235) (.tmp 242) 33 2 (.int .i64 0) 8 rfl Tryd.underlying33 info2 rfl (by decide) (by omega) u23 x23_6 (wrap64 ((rd l1 x24_6) * a2)) [.int .i64 (wrap64 ((rd l1 x24_6) * a2))] (fun k_ => some k_ ≠ (.slice Ao14 t104.length co14 : Value).ownBlock) (fun _ => False) rfl rfl ?aP (fun _ hk => hk.elim) ?aF ?aO ?aB ?aS ?aL ?_; (case aP => exact rfl); (case aB => exact (by repeat (first | (with_reducible first | exact HB.out | apply below_alloc | apply pw_below_drewN | apply below_drew1) | exact HB.out))); (case aF => exact (fun k_ hk => Kd.fresh' (Kd.R_lt (by (with_reducible repeat (first | apply Kd.R_alloc | apply Kd.R_drewN | apply Kd.R_drew)); exact HO_8.out)) k_ hk)); (case aO => exact (by (with_reducible repeat (first | apply Kd.R_alloc | apply Kd.R_drewN | apply Kd.R_drew)); exact HO_23.out)); (case aS => exact (below_size (by repeat (first | (with_reducible first | exact HB.out | apply below_alloc | apply pw_below_drewN | apply below_drew1) | exact HB.out)))); (case aL => have := LMc73.out; omega); intro v146 w74 ho hb hg hat; rw [← Ny145.out] at ho; have n0_ := Aside0.mk (Kd.R_after (ok := (fun _ => True)) (by (with_reducible repeat (first | apply Kd.R_alloc | apply Kd.R_drewN | apply Kd.R_drew)); exact Kd.R_mono HO_8.out (fun _ hk => ⟨trivial, hk⟩)) hg hat); have n1_ := Aside0.mk (hb); have n2_ := Aside0.mk (ho); clear HO_8; clear HB; clear HO_23; have HO_8 := n0_; have HB := n1_; have HO147 := n2_; clear n0_ n1_ n2_; clear ho hb hg hat))
                                                          repeat (go_quiet (first | ((with_reducible refine gate_builtin (b := .append) (xs := #[.tmp 235, .tmp 242]) rfl ?_); (try (refine gate_guard (by rfl) ?_; dsimp only)); at_builtin; refine Kd.R_append (Kd.int .i64) (w0 := w) w.heap.size rfl (.tmp 235) (.tmp 242) 33 2 (.int .i64 0) 8 rfl Tryd.underlying33 info2 rfl (by decide) (by omega) u23 x23_6 (wrap64 ((rd l1 x24_6) * a2)) [.int .i64 (wrap64 ((rd l1 x24_6) * a2))] (fun k_ => some k_ ≠ (.slice Ao14 t104.length co14 : Value).ownBlock) (fun _ => False) rfl rfl ?aP (fun _ hk => hk.elim) ?aF ?aO ?aB ?aS ?aL ?_; (case aP => exact rfl); (case aB => exact (by repeat (first | (with_reducible first | exact HB.out | apply below_alloc | apply pw_below_drewN | apply below_drew1) | exact HB.out))); (case aF => exact (fun k_ hk => Kd.fresh' (Kd.R_lt (by (with_reducible repeat (first | apply Kd.R_alloc | apply Kd.R_drewN | apply Kd.R_drew)); exact HO_8.out)) k_ hk)); (case aO => exact (by (with_reducible repeat (first | apply Kd.R_alloc | apply Kd.R_drewN | apply Kd.R_drew)); exact HO_23.out)); (case aS => exact (below_size (by repeat (first | (with_reducible first | exact HB.out | apply below_alloc | apply pw_below_drewN | apply below_drew1) | exact HB.out)))); (case aL => have := LMc73.out; omega); intro v146 w74 ho hb hg hat; rw [← Ny145.out] at ho; have n0_ := Aside0.mk (Kd.R_after (ok := (fun _ => True)) (by (with_reducible repeat (first | apply Kd.R_alloc | apply Kd.R_drewN | apply Kd.R_drew)); exact Kd.R_mono HO_8.out (fun _ hk => ⟨trivial, hk⟩)) hg hat); have n1_ := Aside0.mk (hb); have n2_ := Aside0.mk (ho); clear HO_8; clear HB; clear HO_23; have HO_8 := n0_; have HB := n1_; have HO147 := n2_; clear n0_ n1_ n2_; clear ho hb hg hat)); try go_wp2_with (first | ((with_reducible refine gate_builtin (b := .append) (xs := #[.tmp 235, .tmp 242]) rfl ?_); (try (refine gate_guard (by rfl) ?_; dsimp only)); at_builtin; refine Kd.R_append (Kd.int .i64) (w0 := w) w.heap.size rfl (.tmp 235) (.tmp 242) 33 2 (.int .i64 0) 8 rfl Tryd.underlying33 info2 rfl (by decide) (by omega) u23 x23_6 (wrap64 ((rd l1 x24_6) * a2)) [.int .i64 (wrap64 ((rd l1 x24_6) * a2))] (fun k_ => some k_ ≠ (.slice Ao14 t104.length co14 : Value).ownBlock) (fun _ => False) rfl rfl ?aP (fun _ hk => hk.elim) ?aF ?aO ?aB ?aS ?aL ?_; (case aP => exact rfl); (case aB => exact (by repeat (first | (with_reducible first | exact HB.out | apply below_alloc | apply pw_below_drewN | apply below_drew1) | exact HB.out))); (case aF => exact (fun k_ hk => Kd.fresh' (Kd.R_lt (by (with_reducible repeat (first | apply Kd.R_alloc | apply Kd.R_drewN | apply Kd.R_drew)); exact HO_8.out)) k_ hk)); (case aO => exact (by (with_reducible repeat (first | apply Kd.R_alloc | apply Kd.R_drewN | apply Kd.R_drew)); exact HO_23.out)); (case aS => exact (below_size (by repeat (first | (with_reducible first | exact HB.out | apply below_alloc | apply pw_below_drewN | apply below_drew1) | exact HB.out)))); (case aL => have := LMc73.out; omega); intro v146 w74 ho hb hg hat; rw [← Ny145.out] at ho; have n0_ := Aside0.mk (Kd.R_after (ok := (fun _ => True)) (by (with_reducible repeat (first | apply Kd.R_alloc | apply Kd.R_drewN | apply Kd.R_drew)); exact Kd.R_mono HO_8.out (fun _ hk => ⟨trivial, hk⟩)) hg hat); have n1_ := Aside0.mk (hb); have n2_ := Aside0.mk (ho); clear HO_8; clear HB; clear HO_23; have HO_8 := n0_; have HB := n1_; have HO147 := n2_; clear n0_ n1_ n2_; clear ho hb hg hat)))
                                                          go_roundg k6
                                                          case measure => have := HJ9.out; have := HK2.out; have := HJ52.out; have := HK4.out; have := HJ64.out; have := HK6.out; omega
                                                          case rel => exact ⟨(y145), (wrap64 (x24_6 + 1)), (by first | rfl | (simp; done) | (simp [*]; done)), H', ⟨by have := HJ9.out; have := HK2.out; have := HJ52.out; have := HK4.out; have := HJ64.out; have := HK6.out; omega⟩, ⟨by (with_reducible repeat (first | apply Kd.R_alloc | apply Kd.R_drewN | apply Kd.R_drew)); exact Kd.R_mono HO_8.out (fun _ hk => hk.2)⟩, ⟨by (with_reducible repeat (first | apply Kd.R_alloc | apply Kd.R_drewN | apply Kd.R_drew)); exact HO147.out⟩, ⟨by repeat (first | (with_reducible first | exact HB.out | apply below_alloc | apply pw_below_drewN | apply below_drew1) | exact HB.out)⟩⟩
                                                        · rw [if_neg c73] at H
                                                          exact absurd H (by simp)
                                                      · rw [if_neg c72] at H
                                                        exact absurd H (by simp)
                                                    · rw [if_neg c71] at H
                                                      have c71b0 : decide (x24_6 < (l1.length : Int)) = false := decide_eq_false c71
                                                      clear c71
                                                      replace H := Option.bind_eq_some_iff.mp H
                                                      obtain ⟨⟨t148, t149⟩, A750, H⟩ := H
                                                      replace H : (if t149 = 0 then ((daybooklaw01_same.f k6 t148 t104).bind fun t152 => (some t152)) else (some false)) = some r := H
                                                      have A75 := Aside0.mk A750
                                                      clear A750
                                                      by_cases c76 : t149 = 0
                                                      · rw [if_pos c76] at H
                                                        have c76b0 : (t149 == 0) = true := beq_iff_eq.mpr c76
                                                        have c76b1 : (t149 != 0) = false := bne_eq_false_iff_eq.mpr c76
                                                        clear c76
                                                        replace H := Option.bind_eq_some_iff.mp H
                                                        obtain ⟨t152, A770, H⟩ := H
                                                        replace H : (some t152) = some r := H
                                                        have A77 := Aside0.mk A770
                                                        clear A770
                                                        obtain rfl := Option.some.inj H
                                                        obtain ⟨Ao78, co78, eo78⟩ := Kd.R_slice HO_23.out
                                                        subst eo78
                                                        go_wp2_with (first | (go_at_call 14; (with_reducible refine (money_Split.calls a0 _ _ x23_6 t148 t149 _ ?side1 ?side2 A75.out (Glob.step G0.out (by repeat (first | (with_reducible first | exact HB.out | apply below_alloc | apply pw_below_drewN | apply below_drew1) | exact HB.out | exact Below.refl _ _)))).mono ?_); (case side1 => repeat (first | exact (Kd.R_reads' HO_23.out).2.2 | (with_reducible refine Kd.C_alloc ?_ _) | (with_reducible refine Kd.C_drewN ?_ _) | (with_reducible refine Kd.C_drew ?_))); (case side2 => exact (Kd.R_reads' HO_23.out).2.1); rintro e w79 ⟨v150, rfl, ho0, hb⟩; have n0_ := Aside0.mk (Kd.R_elder' (by (with_reducible repeat (first | apply Kd.R_alloc | apply Kd.R_drewN | apply Kd.R_drew)); exact HO_8.out) (Kd.R_base ho0) hb); have n1_ := Aside0.mk (Kd.R_elder' (by (with_reducible repeat (first | apply Kd.R_alloc | apply Kd.R_drewN | apply Kd.R_drew)); exact HO_23.out) (Kd.R_base ho0) hb); have n2_ := Aside0.mk (Kd.R_lower (Kd.R_new' (Kd.R_new' ho0 (Kd.R_lt (by (with_reducible repeat (first | apply Kd.R_alloc | apply Kd.R_drewN | apply Kd.R_drew)); exact HO_8.out))) (Kd.R_lt (by (with_reducible repeat (first | apply Kd.R_alloc | apply Kd.R_drewN | apply Kd.R_drew)); exact HO_23.out))) (below_size (by repeat (first | (with_reducible first | exact HB.out | apply below_alloc | apply pw_below_drewN | apply below_drew1) | exact HB.out)))); have n3_ := Aside0.mk (below_step (by repeat (first | (with_reducible first | exact HB.out | apply below_alloc | apply pw_below_drewN | apply below_drew1) | exact HB.out)) hb); clear HO_8; clear HO_23; clear HB; have HO_8 := n0_; have HO_23 := n1_; have HO151 := n2_; have HB := n3_; clear n0_ n1_ n2_ n3_; (try clear hb); (try clear hb2); (try clear hk); (try clear hi); (try clear ho0); obtain ⟨Ao80, co80, eo80⟩ := Kd.R_slice HO151.out; subst eo80) | (go_at_call 17; (with_reducible refine (daybooklaw01_same.calls k6 _ _ t148 _ _ t104 t152 _ ?side1 ?side2 ?side3 ?side4 A77.out).mono ?_); (case side1 => repeat (first | exact (Kd.R_reads' HO151.out).2.2 | (with_reducible refine Kd.C_alloc ?_ _) | (with_reducible refine Kd.C_drewN ?_ _) | (with_reducible refine Kd.C_drew ?_))); (case side2 => exact (Kd.R_reads' HO151.out).2.1); (case side3 => repeat (first | exact (Kd.R_reads' HO_8.out).2.2 | (with_reducible refine Kd.C_alloc ?_ _) | (with_reducible refine Kd.C_drewN ?_ _) | (with_reducible refine Kd.C_drew ?_))); (case side4 => exact (Kd.R_reads' HO_8.out).2.1); rintro e w' ⟨rfl, ⟨nd, rfl⟩⟩; (try first | exact ⟨rfl, _, World.drewN_drewN _ _ _⟩ | exact ⟨rfl, _, Eq.trans (World.drewN_drewN _ _ _) (congrArg (World.drewN _) (Nat.add_assoc _ _ _))⟩)))
                                                        repeat (go_quiet (first | (go_at_call 14; (with_reducible refine (money_Split.calls a0 _ _ x23_6 t148 t149 _ ?side1 ?side2 A75.out (Glob.step G0.out (by repeat (first | (with_reducible first | exact HB.out | apply below_alloc | apply pw_below_drewN | apply below_drew1) | exact HB.out | exact Below.refl _ _)))).mono ?_); (case side1 => repeat (first | exact (Kd.R_reads' HO_23.out).2.2 | (with_reducible refine Kd.C_alloc ?_ _) | (with_reducible refine Kd.C_drewN ?_ _) | (with_reducible refine Kd.C_drew ?_))); (case side2 => exact (Kd.R_reads' HO_23.out).2.1); rintro e w79 ⟨v150, rfl, ho0, hb⟩; have n0_ := Aside0.mk (Kd.R_elder' (by (with_reducible repeat (first | apply Kd.R_alloc | apply Kd.R_drewN | apply Kd.R_drew)); exact HO_8.out) (Kd.R_base ho0) hb); have n1_ := Aside0.mk (Kd.R_elder' (by (with_reducible repeat (first | apply Kd.R_alloc | apply Kd.R_drewN | apply Kd.R_drew)); exact HO_23.out) (Kd.R_base ho0) hb); have n2_ := Aside0.mk (Kd.R_lower (Kd.R_new' (Kd.R_new' ho0 (Kd.R_lt (by (with_reducible repeat (first | apply Kd.R_alloc | apply Kd.R_drewN | apply Kd.R_drew)); exact HO_8.out))) (Kd.R_lt (by (with_reducible repeat (first | apply Kd.R_alloc | apply Kd.R_drewN | apply Kd.R_drew)); exact HO_23.out))) (below_size (by repeat (first | (with_reducible first | exact HB.out | apply below_alloc | apply pw_below_drewN | apply below_drew1) | exact HB.out)))); have n3_ := Aside0.mk (below_step (by repeat (first | (with_reducible first | exact HB.out | apply below_alloc | apply pw_below_drewN | apply below_drew1) | exact HB.out)) hb); clear HO_8; clear HO_23; clear HB; have HO_8 := n0_; have HO_23 := n1_; have HO151 := n2_; have HB := n3_; clear n0_ n1_ n2_ n3_; (try clear hb); (try clear hb2); (try clear hk); (try clear hi); (try clear ho0); obtain ⟨Ao80, co80, eo80⟩ := Kd.R_slice HO151.out; subst eo80) | (go_at_call 17; (with_reducible refine (daybooklaw01_same.calls k6 _ _ t148 _ _ t104 t152 _ ?side1 ?side2 ?side3 ?side4 A77.out).mono ?_); (case side1 => repeat (first | exact (Kd.R_reads' HO151.out).2.2 | (with_reducible refine Kd.C_alloc ?_ _) | (with_reducible refine Kd.C_drewN ?_ _) | (with_reducible refine Kd.C_drew ?_))); (case side2 => exact (Kd.R_reads' HO151.out).2.1); (case side3 => repeat (first | exact (Kd.R_reads' HO_8.out).2.2 | (with_reducible refine Kd.C_alloc ?_ _) | (with_reducible refine Kd.C_drewN ?_ _) | (with_reducible refine Kd.C_drew ?_))); (case side4 => exact (Kd.R_reads' HO_8.out).2.1); rintro e w' ⟨rfl, ⟨nd, rfl⟩⟩; (try first | exact ⟨rfl, _, World.drewN_drewN _ _ _⟩ | exact ⟨rfl, _, Eq.trans (World.drewN_drewN _ _ _) (congrArg (World.drewN _) (Nat.add_assoc _ _ _))⟩))); try go_wp2_with (first | (go_at_call 14; (with_reducible refine (money_Split.calls a0 _ _ x23_6 t148 t149 _ ?side1 ?side2 A75.out (Glob.step G0.out (by repeat (first | (with_reducible first | exact HB.out | apply below_alloc | apply pw_below_drewN | apply below_drew1) | exact HB.out | exact Below.refl _ _)))).mono ?_); (case side1 => repeat (first | exact (Kd.R_reads' HO_23.out).2.2 | (with_reducible refine Kd.C_alloc ?_ _) | (with_reducible refine Kd.C_drewN ?_ _) | (with_reducible refine Kd.C_drew ?_))); (case side2 => exact (Kd.R_reads' HO_23.out).2.1); rintro e w79 ⟨v150, rfl, ho0, hb⟩; have n0_ := Aside0.mk (Kd.R_elder' (by (with_reducible repeat (first | apply Kd.R_alloc | apply Kd.R_drewN | apply Kd.R_drew)); exact HO_8.out) (Kd.R_base ho0) hb); have n1_ := Aside0.mk (Kd.R_elder' (by (with_reducible repeat (first | apply Kd.R_alloc | apply Kd.R_drewN | apply Kd.R_drew)); exact HO_23.out) (Kd.R_base ho0) hb); have n2_ := Aside0.mk (Kd.R_lower (Kd.R_new' (Kd.R_new' ho0 (Kd.R_lt (by (with_reducible repeat (first | apply Kd.R_alloc | apply Kd.R_drewN | apply Kd.R_drew)); exact HO_8.out))) (Kd.R_lt (by (with_reducible repeat (first | apply Kd.R_alloc | apply Kd.R_drewN | apply Kd.R_drew)); exact HO_23.out))) (below_size (by repeat (first | (with_reducible first | exact HB.out | apply below_alloc | apply pw_below_drewN | apply below_drew1) | exact HB.out)))); have n3_ := Aside0.mk (below_step (by repeat (first | (with_reducible first | exact HB.out | apply below_alloc | apply pw_below_drewN | apply below_drew1) | exact HB.out)) hb); clear HO_8; clear HO_23; clear HB; have HO_8 := n0_; have HO_23 := n1_; have HO151 := n2_; have HB := n3_; clear n0_ n1_ n2_ n3_; (try clear hb); (try clear hb2); (try clear hk); (try clear hi); (try clear ho0); obtain ⟨Ao80, co80, eo80⟩ := Kd.R_slice HO151.out; subst eo80) | (go_at_call 17; (with_reducible refine (daybooklaw01_same.calls k6 _ _ t148 _ _ t104 t152 _ ?side1 ?side2 ?side3 ?side4 A77.out).mono ?_); (case side1 => repeat (first | exact (Kd.R_reads' HO151.out).2.2 | (with_reducible refine Kd.C_alloc ?_ _) | (with_reducible refine Kd.C_drewN ?_ _) | (with_reducible refine Kd.C_drew ?_))); (case side2 => exact (Kd.R_reads' HO151.out).2.1); (case side3 => repeat (first | exact (Kd.R_reads' HO_8.out).2.2 | (with_reducible refine Kd.C_alloc ?_ _) | (with_reducible refine Kd.C_drewN ?_ _) | (with_reducible refine Kd.C_drew ?_))); (case side4 => exact (Kd.R_reads' HO_8.out).2.1); rintro e w' ⟨rfl, ⟨nd, rfl⟩⟩; (try first | exact ⟨rfl, _, World.drewN_drewN _ _ _⟩ | exact ⟨rfl, _, Eq.trans (World.drewN_drewN _ _ _) (congrArg (World.drewN _) (Nat.add_assoc _ _ _))⟩))))
                                                        go_ret
                                                        exact ⟨by first | rfl | (simp [errW_none, errW_some] <;> rfl) | (simp [*, errW_none, errW_some] <;> rfl), by repeat (first | (with_reducible first | exact HB.out | apply below_alloc | apply pw_below_drewN | apply below_drew1) | exact HB.out)⟩
                                                      · rw [if_neg c76] at H
                                                        have c76b0 : (t149 == 0) = false := beq_eq_false_iff_ne.mpr c76
                                                        have c76b1 : (t149 != 0) = true := bne_iff_ne.mpr c76
                                                        obtain rfl := Option.some.inj H
                                                        obtain ⟨Ao81, co81, eo81⟩ := Kd.R_slice HO_23.out
                                                        subst eo81
                                                        go_wp2_with (first | (go_at_call 14; (with_reducible refine (money_Split.calls a0 _ _ x23_6 t148 t149 _ ?side1 ?side2 A75.out (Glob.step G0.out (by repeat (first | (with_reducible first | exact HB.out | apply below_alloc | apply pw_below_drewN | apply below_drew1) | exact HB.out | exact Below.refl _ _)))).mono ?_); (case side1 => repeat (first | exact (Kd.R_reads' HO_23.out).2.2 | (with_reducible refine Kd.C_alloc ?_ _) | (with_reducible refine Kd.C_drewN ?_ _) | (with_reducible refine Kd.C_drew ?_))); (case side2 => exact (Kd.R_reads' HO_23.out).2.1); rintro e w82 ⟨v150, rfl, ho0, hb⟩; have n0_ := Aside0.mk (Kd.R_elder' (by (with_reducible repeat (first | apply Kd.R_alloc | apply Kd.R_drewN | apply Kd.R_drew)); exact HO_8.out) (Kd.R_base ho0) hb); have n1_ := Aside0.mk (Kd.R_elder' (by (with_reducible repeat (first | apply Kd.R_alloc | apply Kd.R_drewN | apply Kd.R_drew)); exact HO_23.out) (Kd.R_base ho0) hb); have n2_ := Aside0.mk (Kd.R_lower (Kd.R_new' (Kd.R_new' ho0 (Kd.R_lt (by (with_reducible repeat (first | apply Kd.R_alloc | apply Kd.R_drewN | apply Kd.R_drew)); exact HO_8.out))) (Kd.R_lt (by (with_reducible repeat (first | apply Kd.R_alloc | apply Kd.R_drewN | apply Kd.R_drew)); exact HO_23.out))) (below_size (by repeat (first | (with_reducible first | exact HB.out | apply below_alloc | apply pw_below_drewN | apply below_drew1) | exact HB.out)))); have n3_ := Aside0.mk (below_step (by repeat (first | (with_reducible first | exact HB.out | apply below_alloc | apply pw_below_drewN | apply below_drew1) | exact HB.out)) hb); clear HO_8; clear HO_23; clear HB; have HO_8 := n0_; have HO_23 := n1_; have HO151 := n2_; have HB := n3_; clear n0_ n1_ n2_ n3_; (try clear hb); (try clear hb2); (try clear hk); (try clear hi); (try clear ho0)))
                                                        repeat (go_quiet (first | (go_at_call 14; (with_reducible refine (money_Split.calls a0 _ _ x23_6 t148 t149 _ ?side1 ?side2 A75.out (Glob.step G0.out (by repeat (first | (with_reducible first | exact HB.out | apply below_alloc | apply pw_below_drewN | apply below_drew1) | exact HB.out | exact Below.refl _ _)))).mono ?_); (case side1 => repeat (first | exact (Kd.R_reads' HO_23.out).2.2 | (with_reducible refine Kd.C_alloc ?_ _) | (with_reducible refine Kd.C_drewN ?_ _) | (with_reducible refine Kd.C_drew ?_))); (case side2 => exact (Kd.R_reads' HO_23.out).2.1); rintro e w82 ⟨v150, rfl, ho0, hb⟩; have n0_ := Aside0.mk (Kd.R_elder' (by (with_reducible repeat (first | apply Kd.R_alloc | apply Kd.R_drewN | apply Kd.R_drew)); exact HO_8.out) (Kd.R_base ho0) hb); have n1_ := Aside0.mk (Kd.R_elder' (by (with_reducible repeat (first | apply Kd.R_alloc | apply Kd.R_drewN | apply Kd.R_drew)); exact HO_23.out) (Kd.R_base ho0) hb); have n2_ := Aside0.mk (Kd.R_lower (Kd.R_new' (Kd.R_new' ho0 (Kd.R_lt (by (with_reducible repeat (first | apply Kd.R_alloc | apply Kd.R_drewN | apply Kd.R_drew)); exact HO_8.out))) (Kd.R_lt (by (with_reducible repeat (first | apply Kd.R_alloc | apply Kd.R_drewN | apply Kd.R_drew)); exact HO_23.out))) (below_size (by repeat (first | (with_reducible first | exact HB.out | apply below_alloc | apply pw_below_drewN | apply below_drew1) | exact HB.out)))); have n3_ := Aside0.mk (below_step (by repeat (first | (with_reducible first | exact HB.out | apply below_alloc | apply pw_below_drewN | apply below_drew1) | exact HB.out)) hb); clear HO_8; clear HO_23; clear HB; have HO_8 := n0_; have HO_23 := n1_; have HO151 := n2_; have HB := n3_; clear n0_ n1_ n2_ n3_; (try clear hb); (try clear hb2); (try clear hk); (try clear hi); (try clear ho0))); try go_wp2_with (first | (go_at_call 14; (with_reducible refine (money_Split.calls a0 _ _ x23_6 t148 t149 _ ?side1 ?side2 A75.out (Glob.step G0.out (by repeat (first | (with_reducible first | exact HB.out | apply below_alloc | apply pw_below_drewN | apply below_drew1) | exact HB.out | exact Below.refl _ _)))).mono ?_); (case side1 => repeat (first | exact (Kd.R_reads' HO_23.out).2.2 | (with_reducible refine Kd.C_alloc ?_ _) | (with_reducible refine Kd.C_drewN ?_ _) | (with_reducible refine Kd.C_drew ?_))); (case side2 => exact (Kd.R_reads' HO_23.out).2.1); rintro e w82 ⟨v150, rfl, ho0, hb⟩; have n0_ := Aside0.mk (Kd.R_elder' (by (with_reducible repeat (first | apply Kd.R_alloc | apply Kd.R_drewN | apply Kd.R_drew)); exact HO_8.out) (Kd.R_base ho0) hb); have n1_ := Aside0.mk (Kd.R_elder' (by (with_reducible repeat (first | apply Kd.R_alloc | apply Kd.R_drewN | apply Kd.R_drew)); exact HO_23.out) (Kd.R_base ho0) hb); have n2_ := Aside0.mk (Kd.R_lower (Kd.R_new' (Kd.R_new' ho0 (Kd.R_lt (by (with_reducible repeat (first | apply Kd.R_alloc | apply Kd.R_drewN | apply Kd.R_drew)); exact HO_8.out))) (Kd.R_lt (by (with_reducible repeat (first | apply Kd.R_alloc | apply Kd.R_drewN | apply Kd.R_drew)); exact HO_23.out))) (below_size (by repeat (first | (with_reducible first | exact HB.out | apply below_alloc | apply pw_below_drewN | apply below_drew1) | exact HB.out)))); have n3_ := Aside0.mk (below_step (by repeat (first | (with_reducible first | exact HB.out | apply below_alloc | apply pw_below_drewN | apply below_drew1) | exact HB.out)) hb); clear HO_8; clear HO_23; clear HB; have HO_8 := n0_; have HO_23 := n1_; have HO151 := n2_; have HB := n3_; clear n0_ n1_ n2_ n3_; (try clear hb); (try clear hb2); (try clear hk); (try clear hi); (try clear ho0))))
                                                        go_ret
                                                        exact ⟨by first | rfl | (simp [errW_none, errW_some] <;> rfl) | (simp [*, errW_none, errW_some] <;> rfl), by repeat (first | (with_reducible first | exact HB.out | apply below_alloc | apply pw_below_drewN | apply below_drew1) | exact HB.out)⟩
    · rw [if_neg c8] at H
      have c8b0 : (t105 == 0) = false := beq_eq_false_iff_ne.mpr c8
      have c8b1 : (t105 != 0) = true := bne_iff_ne.mpr c8
      obtain rfl := Option.some.inj H
      go_enter Tryd.func5, Tryd.ntmps5
      go_wp2_with (first | (go_at_call 11; (with_reducible refine (daybooklaw01_first.calls  true _ A4.out (Glob.step G0.out (by repeat (first | (with_reducible first | exact HB.out | apply below_alloc | apply pw_below_drewN | apply below_drew1) | exact HB.out | exact Below.refl _ _)))).mono ?_); rintro e w83 ⟨rfl, hb⟩; have n0_ := Aside0.mk (below_step (by repeat (first | (with_reducible first | exact HB.out | apply below_alloc | apply pw_below_drewN | apply below_drew1) | exact HB.out)) hb); clear HB; have HB := n0_; clear n0_; (try clear hb); (try clear hb2); (try clear hk); (try clear hi)) | (go_at_call 14; (with_reducible refine (money_Split.calls a0 _ _ l1 t104 t105 _ ?side1 ?side2 A6.out (Glob.step G0.out (by repeat (first | (with_reducible first | exact HB.out | apply below_alloc | apply pw_below_drewN | apply below_drew1) | exact HB.out | exact Below.refl _ _)))).mono ?_); (case side1 => repeat (first | exact (Kd.C_below HR1.out HB.out) | (with_reducible refine Kd.C_alloc ?_ _) | (with_reducible refine Kd.C_drewN ?_ _) | (with_reducible refine Kd.C_drew ?_))); (case side2 => exact HC1.out); rintro e w84 ⟨v106, rfl, ho0, hb⟩; have n0_ := Aside0.mk (Kd.R_lower ho0 (below_size (by repeat (first | (with_reducible first | exact HB.out | apply below_alloc | apply pw_below_drewN | apply below_drew1) | exact HB.out)))); have n1_ := Aside0.mk (below_step (by repeat (first | (with_reducible first | exact HB.out | apply below_alloc | apply pw_below_drewN | apply below_drew1) | exact HB.out)) hb); clear HB; have HO107 := n0_; have HB := n1_; clear n0_ n1_; (try clear hb); (try clear hb2); (try clear hk); (try clear hi); (try clear ho0)) | (go_at_call 15; (with_reducible refine (money_Sum.calls _ _ l1 t108 t109 _ ?side1 ?side2 A7.out (Glob.step G0.out (by repeat (first | (with_reducible first | exact HB.out | apply below_alloc | apply pw_below_drewN | apply below_drew1) | exact HB.out | exact Below.refl _ _)))).mono ?_); (case side1 => repeat (first | exact (Kd.C_below HR1.out HB.out) | (with_reducible refine Kd.C_alloc ?_ _) | (with_reducible refine Kd.C_drewN ?_ _) | (with_reducible refine Kd.C_drew ?_))); (case side2 => exact HC1.out); rintro e w85 ⟨rfl, hb⟩; have n0_ := Aside0.mk (Kd.R_below (by (with_reducible repeat (first | apply Kd.R_alloc | apply Kd.R_drewN | apply Kd.R_drew)); exact HO107.out) hb); have n1_ := Aside0.mk (below_step (by repeat (first | (with_reducible first | exact HB.out | apply below_alloc | apply pw_below_drewN | apply below_drew1) | exact HB.out)) hb); clear HO107; clear HB; have HO107 := n0_; have HB := n1_; clear n0_ n1_; (try clear hb); (try clear hb2); (try clear hk); (try clear hi); obtain ⟨Ao86, co86, eo86⟩ := Kd.R_slice HO107.out; subst eo86))
      repeat (go_quiet (first | (go_at_call 11; (with_reducible refine (daybooklaw01_first.calls  true _ A4.out (Glob.step G0.out (by repeat (first | (with_reducible first | exact HB.out | apply below_alloc | apply pw_below_drewN | apply below_drew1) | exact HB.out | exact Below.refl _ _)))).mono ?_); rintro e w83 ⟨rfl, hb⟩; have n0_ := Aside0.mk (below_step (by repeat (first | (with_reducible first | exact HB.out | apply below_alloc | apply pw_below_drewN | apply below_drew1) | exact HB.out)) hb); clear HB; have HB := n0_; clear n0_; (try clear hb); (try clear hb2); (try clear hk); (try clear hi)) | (go_at_call 14; (with_reducible refine (money_Split.calls a0 _ _ l1 t104 t105 _ ?side1 ?side2 A6.out (Glob.step G0.out (by repeat (first | (with_reducible first | exact HB.out | apply below_alloc | apply pw_below_drewN | apply below_drew1) | exact HB.out | exact Below.refl _ _)))).mono ?_); (case side1 => repeat (first | exact (Kd.C_below HR1.out HB.out) | (with_reducible refine Kd.C_alloc ?_ _) | (with_reducible refine Kd.C_drewN ?_ _) | (with_reducible refine Kd.C_drew ?_))); (case side2 => exact HC1.out); rintro e w84 ⟨v106, rfl, ho0, hb⟩; have n0_ := Aside0.mk (Kd.R_lower ho0 (below_size (by repeat (first | (with_reducible first | exact HB.out | apply below_alloc | apply pw_below_drewN | apply below_drew1) | exact HB.out)))); have n1_ := Aside0.mk (below_step (by repeat (first | (with_reducible first | exact HB.out | apply below_alloc | apply pw_below_drewN | apply below_drew1) | exact HB.out)) hb); clear HB; have HO107 := n0_; have HB := n1_; clear n0_ n1_; (try clear hb); (try clear hb2); (try clear hk); (try clear hi); (try clear ho0)) | (go_at_call 15; (with_reducible refine (money_Sum.calls _ _ l1 t108 t109 _ ?side1 ?side2 A7.out (Glob.step G0.out (by repeat (first | (with_reducible first | exact HB.out | apply below_alloc | apply pw_below_drewN | apply below_drew1) | exact HB.out | exact Below.refl _ _)))).mono ?_); (case side1 => repeat (first | exact (Kd.C_below HR1.out HB.out) | (with_reducible refine Kd.C_alloc ?_ _) | (with_reducible refine Kd.C_drewN ?_ _) | (with_reducible refine Kd.C_drew ?_))); (case side2 => exact HC1.out); rintro e w85 ⟨rfl, hb⟩; have n0_ := Aside0.mk (Kd.R_below (by (with_reducible repeat (first | apply Kd.R_alloc | apply Kd.R_drewN | apply Kd.R_drew)); exact HO107.out) hb); have n1_ := Aside0.mk (below_step (by repeat (first | (with_reducible first | exact HB.out | apply below_alloc | apply pw_below_drewN | apply below_drew1) | exact HB.out)) hb); clear HO107; clear HB; have HO107 := n0_; have HB := n1_; clear n0_ n1_; (try clear hb); (try clear hb2); (try clear hk); (try clear hi); obtain ⟨Ao86, co86, eo86⟩ := Kd.R_slice HO107.out; subst eo86)); try go_wp2_with (first | (go_at_call 11; (with_reducible refine (daybooklaw01_first.calls  true _ A4.out (Glob.step G0.out (by repeat (first | (with_reducible first | exact HB.out | apply below_alloc | apply pw_below_drewN | apply below_drew1) | exact HB.out | exact Below.refl _ _)))).mono ?_); rintro e w83 ⟨rfl, hb⟩; have n0_ := Aside0.mk (below_step (by repeat (first | (with_reducible first | exact HB.out | apply below_alloc | apply pw_below_drewN | apply below_drew1) | exact HB.out)) hb); clear HB; have HB := n0_; clear n0_; (try clear hb); (try clear hb2); (try clear hk); (try clear hi)) | (go_at_call 14; (with_reducible refine (money_Split.calls a0 _ _ l1 t104 t105 _ ?side1 ?side2 A6.out (Glob.step G0.out (by repeat (first | (with_reducible first | exact HB.out | apply below_alloc | apply pw_below_drewN | apply below_drew1) | exact HB.out | exact Below.refl _ _)))).mono ?_); (case side1 => repeat (first | exact (Kd.C_below HR1.out HB.out) | (with_reducible refine Kd.C_alloc ?_ _) | (with_reducible refine Kd.C_drewN ?_ _) | (with_reducible refine Kd.C_drew ?_))); (case side2 => exact HC1.out); rintro e w84 ⟨v106, rfl, ho0, hb⟩; have n0_ := Aside0.mk (Kd.R_lower ho0 (below_size (by repeat (first | (with_reducible first | exact HB.out | apply below_alloc | apply pw_below_drewN | apply below_drew1) | exact HB.out)))); have n1_ := Aside0.mk (below_step (by repeat (first | (with_reducible first | exact HB.out | apply below_alloc | apply pw_below_drewN | apply below_drew1) | exact HB.out)) hb); clear HB; have HO107 := n0_; have HB := n1_; clear n0_ n1_; (try clear hb); (try clear hb2); (try clear hk); (try clear hi); (try clear ho0)) | (go_at_call 15; (with_reducible refine (money_Sum.calls _ _ l1 t108 t109 _ ?side1 ?side2 A7.out (Glob.step G0.out (by repeat (first | (with_reducible first | exact HB.out | apply below_alloc | apply pw_below_drewN | apply below_drew1) | exact HB.out | exact Below.refl _ _)))).mono ?_); (case side1 => repeat (first | exact (Kd.C_below HR1.out HB.out) | (with_reducible refine Kd.C_alloc ?_ _) | (with_reducible refine Kd.C_drewN ?_ _) | (with_reducible refine Kd.C_drew ?_))); (case side2 => exact HC1.out); rintro e w85 ⟨rfl, hb⟩; have n0_ := Aside0.mk (Kd.R_below (by (with_reducible repeat (first | apply Kd.R_alloc | apply Kd.R_drewN | apply Kd.R_drew)); exact HO107.out) hb); have n1_ := Aside0.mk (below_step (by repeat (first | (with_reducible first | exact HB.out | apply below_alloc | apply pw_below_drewN | apply below_drew1) | exact HB.out)) hb); clear HO107; clear HB; have HO107 := n0_; have HB := n1_; clear n0_ n1_; (try clear hb); (try clear hb2); (try clear hk); (try clear hi); obtain ⟨Ao86, co86, eo86⟩ := Kd.R_slice HO107.out; subst eo86)))
      go_ret
      exact ⟨by first | rfl | (simp [errW_none, errW_some] <;> rfl) | (simp [*, errW_none, errW_some] <;> rfl), by repeat (first | (with_reducible first | exact HB.out | apply below_alloc | apply pw_below_drewN | apply below_drew1) | exact HB.out)⟩
  · replace c5 := Bool.eq_false_iff.mpr c5
    subst c5
    have H1 : (some false) = some r := by rw [if_neg (show ¬ (false = true) by decide)] at H; exact H
    clear H
    have H := H1
    clear H1
    obtain rfl := Option.some.inj H
    go_enter Tryd.func5, Tryd.ntmps5
    go_wp2_with (first | (go_at_call 11; (with_reducible refine (daybooklaw01_first.calls  false _ A4.out (Glob.step G0.out (by repeat (first | (with_reducible first | exact HB.out | apply below_alloc | apply pw_below_drewN | apply below_drew1) | exact HB.out | exact Below.refl _ _)))).mono ?_); rintro e w87 ⟨rfl, hb⟩; have n0_ := Aside0.mk (below_step (by repeat (first | (with_reducible first | exact HB.out | apply below_alloc | apply pw_below_drewN | apply below_drew1) | exact HB.out)) hb); clear HB; have HB := n0_; clear n0_; (try clear hb); (try clear hb2); (try clear hk); (try clear hi)))
    repeat (go_quiet (first | (go_at_call 11; (with_reducible refine (daybooklaw01_first.calls  false _ A4.out (Glob.step G0.out (by repeat (first | (with_reducible first | exact HB.out | apply below_alloc | apply pw_below_drewN | apply below_drew1) | exact HB.out | exact Below.refl _ _)))).mono ?_); rintro e w87 ⟨rfl, hb⟩; have n0_ := Aside0.mk (below_step (by repeat (first | (with_reducible first | exact HB.out | apply below_alloc | apply pw_below_drewN | apply below_drew1) | exact HB.out)) hb); clear HB; have HB := n0_; clear n0_; (try clear hb); (try clear hb2); (try clear hk); (try clear hi))); try go_wp2_with (first | (go_at_call 11; (with_reducible refine (daybooklaw01_first.calls  false _ A4.out (Glob.step G0.out (by repeat (first | (with_reducible first | exact HB.out | apply below_alloc | apply pw_below_drewN | apply below_drew1) | exact HB.out | exact Below.refl _ _)))).mono ?_); rintro e w87 ⟨rfl, hb⟩; have n0_ := Aside0.mk (below_step (by repeat (first | (with_reducible first | exact HB.out | apply below_alloc | apply pw_below_drewN | apply below_drew1) | exact HB.out)) hb); clear HB; have HB := n0_; clear n0_; (try clear hb); (try clear hb2); (try clear hk); (try clear hi))))
    go_ret
    exact ⟨by first | rfl | (simp [errW_none, errW_some] <;> rfl) | (simp [*, errW_none, errW_some] <;> rfl), by repeat (first | (with_reducible first | exact HB.out | apply below_alloc | apply pw_below_drewN | apply below_drew1) | exact HB.out)⟩

/-- THE ONE PURE STATEMENT of daybooklaw01_MoneyShares: yours. -/
def daybooklaw01_MoneyShares.Pure : Prop := ∀ (a0 : Int) (l1 : List Int) (a2 : Int), (Lit.int .i64 a0).wf = true → l1.length ≤ maxLen → l1.length * 8 ≤ 140737488351232 → (∀ x ∈ l1, (Lit.int .i64 x).wf = true) → (Lit.int .i64 a2).wf = true → ∃ k, daybooklaw01_MoneyShares.f k a0 l1 a2 = some true
theorem daybooklaw01_MoneyShares.walk (P : daybooklaw01_MoneyShares.Pure) (a0 : Int) (a1 : Option Addr) (len1 cap1 : Nat) (z1 : List Int) (a2 : Int) (w : World) (w0 : (Lit.int .i64 a0).wf = true) (w1 : (a1 = none ∧ len1 = 0 ∧ cap1 = 0 ∧ z1 = []) ∨ ∃ x, a1 = some x ∧ len1 ≤ cap1 ∧ cap1 ≤ maxLen ∧ z1.length = cap1 ∧ (∀ i, i < z1.length → w.cell? (x.add i) = some (.int .i64 (z1.getD i 0))) ∧ ∀ n ∈ z1, (Lit.int .i64 n).wf = true) (y1 : len1 * 8 ≤ 140737488351232) (w2 : (Lit.int .i64 a2).wf = true) (G : Glob w) :
    Calls Tryd.prog 5 #[.int .i64 a0, .slice a1 len1 cap1, .int .i64 a2] w fun e w' => e = .returned (.bool true) ∧ Below w.heap.size w w' := by
  have G0 := Aside0.mk G
  clear G
  obtain ⟨l1, rfl, hr1, hm1, hw1, hc1⟩ := ReadsInt.ofRowC w1
  obtain ⟨k, h⟩ := P a0 l1 a2 w0 hm1 y1 hw1 w2
  refine (daybooklaw01_MoneyShares.calls k a0 _ _ l1 a2 true w (Kd.C_of_reads (d := (0 : Int)) (h1 := fun _ => rfl) hr1) hc1 h (Glob.step G0.out (by repeat (first | (with_reducible first | exact HB.out | apply below_alloc | apply pw_below_drewN | apply below_drew1) | exact HB.out | exact Below.refl _ _)))).mono ?_
  rintro e w' ⟨rfl, hd⟩
  exact ⟨rfl, hd⟩

end Go.Proofs.YtncndmhmmfbklaaDoor.X
