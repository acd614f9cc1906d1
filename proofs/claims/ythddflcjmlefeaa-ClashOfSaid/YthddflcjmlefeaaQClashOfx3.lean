/- Walks of this seat's functions, after the print's manner. -/
import Derived.Test.YthddflcjmlefeaaPClashOfx0
import Derived.Test.YthddflcjmlefeaaQClashOfx1
import Derived.Test.YthddflcjmlefeaaQClashOfx2
namespace Go.Proofs.Ythddflcjmlefeaa.PClashOf
open Go.RowKit Go.Proofs.YthddflcjmlefeaaW.PrintWords Go.Proofs.YthddflcjmlefeaaW.PrintLast Go.Proofs.YthddflcjmlefeaaW.PrintMore
attribute [local go_sem] max2_int min2_int max_two min_two max_three min_three max_four min_four   -- for this text's walks alone
set_option linter.unusedVariables false
set_option linter.unusedSimpArgs false

/-! ### crosswaylaw23_ClashOf: function 10 -/
mutual
def crosswaylaw23_ClashOf.j0 : Nat → Int → Int → Int → Bool → Int → Int → Int → Int → Int → Int → Int → Int → Int → Int → Int → Int → Int → Int → ByteArray → ByteArray → Option (Bool)
  | 0, _, _, _, _, _, _, _, _, _, _, _, _, _, _, _, _, _, _, _, _ => none
  | k + 1, x8, x9, x10, x32, x106000, x106001, x106002, x106003, x106004, x106005, x106006, x106007, x106008, x106009, x106010, x106011, x106012, x106013, x106014, x106015 => if x32 = true then ((crosswaylaw23_awake.f k).bind fun t106 => (if t106 = true then ((clash_Of.f k x106000 x106001 x106002 x106003 x106004 x106005 x106006 x106007 x106008 x106009 x106010 x106011 x106012 x106013 x106014 x106015 x8 x9).bind fun t107 => (some (t107 == 4))) else (some false))) else (if x106001 = x8 then ((crosswaylaw23_awake.f k).bind fun t108 => (if t108 = true then ((clash_Of.f k x106000 x106001 x106002 x106003 x106004 x106005 x106006 x106007 x106008 x106009 x106010 x106011 x106012 x106013 x106014 x106015 x8 x9).bind fun t109 => (some (t109 == 2))) else (some false))) else (if x9 = 0 then (crosswaylaw23_ClashOf.j1 k x8 x9 x10 false x106000 x106001 x106002 x106003 x106004 x106005 x106006 x106007 x106008 x106009 x106010 x106011 x106012 x106013 x106014 x106015) else (crosswaylaw23_ClashOf.j1 k x8 x9 x10 (x106002 == x9) x106000 x106001 x106002 x106003 x106004 x106005 x106006 x106007 x106008 x106009 x106010 x106011 x106012 x106013 x106014 x106015)))
def crosswaylaw23_ClashOf.j1 : Nat → Int → Int → Int → Bool → Int → Int → Int → Int → Int → Int → Int → Int → Int → Int → Int → Int → Int → Int → ByteArray → ByteArray → Option (Bool)
  | 0, _, _, _, _, _, _, _, _, _, _, _, _, _, _, _, _, _, _, _, _ => none
  | k + 1, x8, x9, x10, x52, x106000, x106001, x106002, x106003, x106004, x106005, x106006, x106007, x106008, x106009, x106010, x106011, x106012, x106013, x106014, x106015 => if x52 = true then (if x106012 = 0 then (crosswaylaw23_ClashOf.j2 k x8 x9 x10 (x106013 == 0) x106000 x106001 x106002 x106003 x106004 x106005 x106006 x106007 x106008 x106009 x106010 x106011 x106012 x106013 x106014 x106015) else (crosswaylaw23_ClashOf.j2 k x8 x9 x10 false x106000 x106001 x106002 x106003 x106004 x106005 x106006 x106007 x106008 x106009 x106010 x106011 x106012 x106013 x106014 x106015)) else (if x106012 = 0 then (crosswaylaw23_ClashOf.j3 k x8 x9 x10 false x106000 x106001 x106002 x106003 x106004 x106005 x106006 x106007 x106008 x106009 x106010 x106011 x106012 x106013 x106014 x106015) else (if x106012 = x8 then (crosswaylaw23_ClashOf.j3 k x8 x9 x10 (x106013 == x9) x106000 x106001 x106002 x106003 x106004 x106005 x106006 x106007 x106008 x106009 x106010 x106011 x106012 x106013 x106014 x106015) else (crosswaylaw23_ClashOf.j3 k x8 x9 x10 false x106000 x106001 x106002 x106003 x106004 x106005 x106006 x106007 x106008 x106009 x106010 x106011 x106012 x106013 x106014 x106015)))
def crosswaylaw23_ClashOf.j2 : Nat → Int → Int → Int → Bool → Int → Int → Int → Int → Int → Int → Int → Int → Int → Int → Int → Int → Int → Int → ByteArray → ByteArray → Option (Bool)
  | 0, _, _, _, _, _, _, _, _, _, _, _, _, _, _, _, _, _, _, _, _ => none
  | k + 1, x8, x9, x10, x68, x106000, x106001, x106002, x106003, x106004, x106005, x106006, x106007, x106008, x106009, x106010, x106011, x106012, x106013, x106014, x106015 => if x68 = true then ((crosswaylaw23_awake.f k).bind fun t110 => (if t110 = true then ((clash_Of.f k x106000 x106001 x106002 x106003 x106004 x106005 x106006 x106007 x106008 x106009 x106010 x106011 x106012 x106013 x106014 x106015 x8 x9).bind fun t111 => (some (t111 == 3))) else (some false))) else ((crosswaylaw23_awake.f k).bind fun t112 => (if t112 = true then ((clash_Of.f k x106000 x106001 x106002 x106003 x106004 x106005 x106006 x106007 x106008 x106009 x106010 x106011 x106012 x106013 x106014 x106015 x8 x9).bind fun t113 => (some (t113 == x10))) else (some false)))
def crosswaylaw23_ClashOf.j3 : Nat → Int → Int → Int → Bool → Int → Int → Int → Int → Int → Int → Int → Int → Int → Int → Int → Int → Int → Int → ByteArray → ByteArray → Option (Bool)
  | 0, _, _, _, _, _, _, _, _, _, _, _, _, _, _, _, _, _, _, _, _ => none
  | k + 1, x8, x9, x10, x69, x106000, x106001, x106002, x106003, x106004, x106005, x106006, x106007, x106008, x106009, x106010, x106011, x106012, x106013, x106014, x106015 => if x69 = true then ((crosswaylaw23_awake.f k).bind fun t114 => (if t114 = true then ((clash_Of.f k x106000 x106001 x106002 x106003 x106004 x106005 x106006 x106007 x106008 x106009 x106010 x106011 x106012 x106013 x106014 x106015 x8 x9).bind fun t115 => (some (t115 == 1))) else (some false))) else ((crosswaylaw23_awake.f k).bind fun t116 => (if t116 = true then ((clash_Of.f k x106000 x106001 x106002 x106003 x106004 x106005 x106006 x106007 x106008 x106009 x106010 x106011 x106012 x106013 x106014 x106015 x8 x9).bind fun t117 => (some (t117 == x10))) else (some false)))
end
def crosswaylaw23_ClashOf.f (k : Nat) (a0_0 : Int) (a0_1 : Int) (a0_2 : Int) (a0_3 : Int) (a0_4 : Int) (a0_5 : Int) (a0_6 : Int) (a0_7 : Int) (a0_8 : Int) (a0_9 : Int) (a0_10 : Int) (a0_11 : Int) (a0_12 : Int) (a0_13 : Int) (a0_14 : ByteArray) (a0_15 : ByteArray) (a1 : Int) (a2 : Int) : Option (Bool) := if (Go.bits .and .u32 a0_1 1) = (Go.bits .and .u32 a1 1) then (if (Go.bits .and .u32 a2 1) = 0 then (crosswaylaw23_ClashOf.j0 k (Go.bits .and .u32 a1 1) (Go.bits .and .u32 a2 1) 0 false a0_0 (Go.bits .and .u32 a0_1 1) (Go.bits .and .u32 a0_2 1) a0_3 a0_4 a0_5 a0_6 a0_7 a0_8 a0_9 a0_10 a0_11 (Go.bits .and .u32 a0_12 1) (Go.bits .and .u32 a0_13 1) a0_14 a0_15) else (crosswaylaw23_ClashOf.j0 k (Go.bits .and .u32 a1 1) (Go.bits .and .u32 a2 1) 0 ((Go.bits .and .u32 a0_2 1) == (Go.bits .and .u32 a2 1)) a0_0 (Go.bits .and .u32 a0_1 1) (Go.bits .and .u32 a0_2 1) a0_3 a0_4 a0_5 a0_6 a0_7 a0_8 a0_9 a0_10 a0_11 (Go.bits .and .u32 a0_12 1) (Go.bits .and .u32 a0_13 1) a0_14 a0_15)) else (crosswaylaw23_ClashOf.j0 k (Go.bits .and .u32 a1 1) (Go.bits .and .u32 a2 1) 0 false a0_0 (Go.bits .and .u32 a0_1 1) (Go.bits .and .u32 a0_2 1) a0_3 a0_4 a0_5 a0_6 a0_7 a0_8 a0_9 a0_10 a0_11 (Go.bits .and .u32 a0_12 1) (Go.bits .and .u32 a0_13 1) a0_14 a0_15)
theorem crosswaylaw23_ClashOf.mono_l : ∀ k, (∀ y0 y1 y2 y3 y4 y5 y6 y7 y8 y9 y10 y11 y12 y13 y14 y15 y16 y17 y18 y19, LeO (crosswaylaw23_ClashOf.j0 k y0 y1 y2 y3 y4 y5 y6 y7 y8 y9 y10 y11 y12 y13 y14 y15 y16 y17 y18 y19) (crosswaylaw23_ClashOf.j0 (k + 1) y0 y1 y2 y3 y4 y5 y6 y7 y8 y9 y10 y11 y12 y13 y14 y15 y16 y17 y18 y19)) ∧ (∀ y0 y1 y2 y3 y4 y5 y6 y7 y8 y9 y10 y11 y12 y13 y14 y15 y16 y17 y18 y19, LeO (crosswaylaw23_ClashOf.j1 k y0 y1 y2 y3 y4 y5 y6 y7 y8 y9 y10 y11 y12 y13 y14 y15 y16 y17 y18 y19) (crosswaylaw23_ClashOf.j1 (k + 1) y0 y1 y2 y3 y4 y5 y6 y7 y8 y9 y10 y11 y12 y13 y14 y15 y16 y17 y18 y19)) ∧ (∀ y0 y1 y2 y3 y4 y5 y6 y7 y8 y9 y10 y11 y12 y13 y14 y15 y16 y17 y18 y19, LeO (crosswaylaw23_ClashOf.j2 k y0 y1 y2 y3 y4 y5 y6 y7 y8 y9 y10 y11 y12 y13 y14 y15 y16 y17 y18 y19) (crosswaylaw23_ClashOf.j2 (k + 1) y0 y1 y2 y3 y4 y5 y6 y7 y8 y9 y10 y11 y12 y13 y14 y15 y16 y17 y18 y19)) ∧ (∀ y0 y1 y2 y3 y4 y5 y6 y7 y8 y9 y10 y11 y12 y13 y14 y15 y16 y17 y18 y19, LeO (crosswaylaw23_ClashOf.j3 k y0 y1 y2 y3 y4 y5 y6 y7 y8 y9 y10 y11 y12 y13 y14 y15 y16 y17 y18 y19) (crosswaylaw23_ClashOf.j3 (k + 1) y0 y1 y2 y3 y4 y5 y6 y7 y8 y9 y10 y11 y12 y13 y14 y15 y16 y17 y18 y19))
  | 0 => ⟨fun _ _ _ _ _ _ _ _ _ _ _ _ _ _ _ _ _ _ _ _ r h => by simp [crosswaylaw23_ClashOf.j0] at h, fun _ _ _ _ _ _ _ _ _ _ _ _ _ _ _ _ _ _ _ _ r h => by simp [crosswaylaw23_ClashOf.j1] at h, fun _ _ _ _ _ _ _ _ _ _ _ _ _ _ _ _ _ _ _ _ r h => by simp [crosswaylaw23_ClashOf.j2] at h, fun _ _ _ _ _ _ _ _ _ _ _ _ _ _ _ _ _ _ _ _ r h => by simp [crosswaylaw23_ClashOf.j3] at h⟩
  | k + 1 => by
    obtain ⟨ih0, ih1, ih2, ih3⟩ := crosswaylaw23_ClashOf.mono_l k
    refine ⟨?_, ?_, ?_, ?_⟩
    · intro y0 y1 y2 y3 y4 y5 y6 y7 y8 y9 y10 y11 y12 y13 y14 y15 y16 y17 y18 y19
      unfold crosswaylaw23_ClashOf.j0
      repeat' first
      | (with_reducible exact ih0 _ _ _ _ _ _ _ _ _ _ _ _ _ _ _ _ _ _ _ _)
      | (with_reducible exact ih1 _ _ _ _ _ _ _ _ _ _ _ _ _ _ _ _ _ _ _ _)
      | (with_reducible exact ih2 _ _ _ _ _ _ _ _ _ _ _ _ _ _ _ _ _ _ _ _)
      | (with_reducible exact ih3 _ _ _ _ _ _ _ _ _ _ _ _ _ _ _ _ _ _ _ _)
      | (with_reducible exact clash_Of.mono _ _ _ _ _ _ _ _ _ _ _ _ _ _ _ _ _ _ _)
      | (with_reducible exact crosswaylaw23_awake.mono _)
      | (with_reducible exact LeO.refl _)
      | (with_reducible exact LeO.none _)
      | (with_reducible refine LeO.ite ?_ ?_)
      | (with_reducible refine LeO.bind ?_ (fun _ => ?_))
      | exact ih0 _ _ _ _ _ _ _ _ _ _ _ _ _ _ _ _ _ _ _ _
      | exact ih1 _ _ _ _ _ _ _ _ _ _ _ _ _ _ _ _ _ _ _ _
      | exact ih2 _ _ _ _ _ _ _ _ _ _ _ _ _ _ _ _ _ _ _ _
      | exact ih3 _ _ _ _ _ _ _ _ _ _ _ _ _ _ _ _ _ _ _ _
      | exact clash_Of.mono _ _ _ _ _ _ _ _ _ _ _ _ _ _ _ _ _ _ _
      | exact crosswaylaw23_awake.mono _
      | exact LeO.none _
      | refine LeO.ite ?_ ?_
      | refine LeO.bind ?_ (fun _ => ?_)
    · intro y0 y1 y2 y3 y4 y5 y6 y7 y8 y9 y10 y11 y12 y13 y14 y15 y16 y17 y18 y19
      unfold crosswaylaw23_ClashOf.j1
      repeat' first
      | (with_reducible exact ih0 _ _ _ _ _ _ _ _ _ _ _ _ _ _ _ _ _ _ _ _)
      | (with_reducible exact ih1 _ _ _ _ _ _ _ _ _ _ _ _ _ _ _ _ _ _ _ _)
      | (with_reducible exact ih2 _ _ _ _ _ _ _ _ _ _ _ _ _ _ _ _ _ _ _ _)
      | (with_reducible exact ih3 _ _ _ _ _ _ _ _ _ _ _ _ _ _ _ _ _ _ _ _)
      | (with_reducible exact clash_Of.mono _ _ _ _ _ _ _ _ _ _ _ _ _ _ _ _ _ _ _)
      | (with_reducible exact crosswaylaw23_awake.mono _)
      | (with_reducible exact LeO.refl _)
      | (with_reducible exact LeO.none _)
      | (with_reducible refine LeO.ite ?_ ?_)
      | (with_reducible refine LeO.bind ?_ (fun _ => ?_))
      | exact ih0 _ _ _ _ _ _ _ _ _ _ _ _ _ _ _ _ _ _ _ _
      | exact ih1 _ _ _ _ _ _ _ _ _ _ _ _ _ _ _ _ _ _ _ _
      | exact ih2 _ _ _ _ _ _ _ _ _ _ _ _ _ _ _ _ _ _ _ _
      | exact ih3 _ _ _ _ _ _ _ _ _ _ _ _ _ _ _ _ _ _ _ _
      | exact clash_Of.mono _ _ _ _ _ _ _ _ _ _ _ _ _ _ _ _ _ _ _
      | exact crosswaylaw23_awake.mono _
      | exact LeO.none _
      | refine LeO.ite ?_ ?_
      | refine LeO.bind ?_ (fun _ => ?_)
    · intro y0 y1 y2 y3 y4 y5 y6 y7 y8 y9 y10 y11 y12 y13 y14 y15 y16 y17 y18 y19
      unfold crosswaylaw23_ClashOf.j2
      repeat' first
      | (with_reducible exact ih0 _ _ _ _ _ _ _ _ _ _ _ _ _ _ _ _ _ _ _ _)
      | (with_reducible exact ih1 _ _ _ _ _ _ _ _ _ _ _ _ _ _ _ _ _ _ _ _)
      | (with_reducible exact ih2 _ _ _ _ _ _ _ _ _ _ _ _ _ _ _ _ _ _ _ _)
      | (with_reducible exact ih3 _ _ _ _ _ _ _ _ _ _ _ _ _ _ _ _ _ _ _ _)
      | (with_reducible exact clash_Of.mono _ _ _ _ _ _ _ _ _ _ _ _ _ _ _ _ _ _ _)
      | (with_reducible exact crosswaylaw23_awake.mono _)
      | (with_reducible exact LeO.refl _)
      | (with_reducible exact LeO.none _)
      | (with_reducible refine LeO.ite ?_ ?_)
      | (with_reducible refine LeO.bind ?_ (fun _ => ?_))
      | exact ih0 _ _ _ _ _ _ _ _ _ _ _ _ _ _ _ _ _ _ _ _
      | exact ih1 _ _ _ _ _ _ _ _ _ _ _ _ _ _ _ _ _ _ _ _
      | exact ih2 _ _ _ _ _ _ _ _ _ _ _ _ _ _ _ _ _ _ _ _
      | exact ih3 _ _ _ _ _ _ _ _ _ _ _ _ _ _ _ _ _ _ _ _
      | exact clash_Of.mono _ _ _ _ _ _ _ _ _ _ _ _ _ _ _ _ _ _ _
      | exact crosswaylaw23_awake.mono _
      | exact LeO.none _
      | refine LeO.ite ?_ ?_
      | refine LeO.bind ?_ (fun _ => ?_)
    · intro y0 y1 y2 y3 y4 y5 y6 y7 y8 y9 y10 y11 y12 y13 y14 y15 y16 y17 y18 y19
      unfold crosswaylaw23_ClashOf.j3
      repeat' first
      | (with_reducible exact ih0 _ _ _ _ _ _ _ _ _ _ _ _ _ _ _ _ _ _ _ _)
      | (with_reducible exact ih1 _ _ _ _ _ _ _ _ _ _ _ _ _ _ _ _ _ _ _ _)
      | (with_reducible exact ih2 _ _ _ _ _ _ _ _ _ _ _ _ _ _ _ _ _ _ _ _)
      | (with_reducible exact ih3 _ _ _ _ _ _ _ _ _ _ _ _ _ _ _ _ _ _ _ _)
      | (with_reducible exact clash_Of.mono _ _ _ _ _ _ _ _ _ _ _ _ _ _ _ _ _ _ _)
      | (with_reducible exact crosswaylaw23_awake.mono _)
      | (with_reducible exact LeO.refl _)
      | (with_reducible exact LeO.none _)
      | (with_reducible refine LeO.ite ?_ ?_)
      | (with_reducible refine LeO.bind ?_ (fun _ => ?_))
      | exact ih0 _ _ _ _ _ _ _ _ _ _ _ _ _ _ _ _ _ _ _ _
      | exact ih1 _ _ _ _ _ _ _ _ _ _ _ _ _ _ _ _ _ _ _ _
      | exact ih2 _ _ _ _ _ _ _ _ _ _ _ _ _ _ _ _ _ _ _ _
      | exact ih3 _ _ _ _ _ _ _ _ _ _ _ _ _ _ _ _ _ _ _ _
      | exact clash_Of.mono _ _ _ _ _ _ _ _ _ _ _ _ _ _ _ _ _ _ _
      | exact crosswaylaw23_awake.mono _
      | exact LeO.none _
      | refine LeO.ite ?_ ?_
      | refine LeO.bind ?_ (fun _ => ?_)
theorem crosswaylaw23_ClashOf.mono : ∀ a0 a1 a2 a3 a4 a5 a6 a7 a8 a9 a10 a11 a12 a13 a14 a15 a16 a17 k, LeO (crosswaylaw23_ClashOf.f k a0 a1 a2 a3 a4 a5 a6 a7 a8 a9 a10 a11 a12 a13 a14 a15 a16 a17) (crosswaylaw23_ClashOf.f (k + 1) a0 a1 a2 a3 a4 a5 a6 a7 a8 a9 a10 a11 a12 a13 a14 a15 a16 a17) := by
  intro a0 a1 a2 a3 a4 a5 a6 a7 a8 a9 a10 a11 a12 a13 a14 a15 a16 a17 k
  obtain ⟨ih0, ih1, ih2, ih3⟩ := crosswaylaw23_ClashOf.mono_l k
  unfold crosswaylaw23_ClashOf.f
  repeat' first
      | (with_reducible exact ih0 _ _ _ _ _ _ _ _ _ _ _ _ _ _ _ _ _ _ _ _)
      | (with_reducible exact ih1 _ _ _ _ _ _ _ _ _ _ _ _ _ _ _ _ _ _ _ _)
      | (with_reducible exact ih2 _ _ _ _ _ _ _ _ _ _ _ _ _ _ _ _ _ _ _ _)
      | (with_reducible exact ih3 _ _ _ _ _ _ _ _ _ _ _ _ _ _ _ _ _ _ _ _)
      | (with_reducible exact clash_Of.mono _ _ _ _ _ _ _ _ _ _ _ _ _ _ _ _ _ _ _)
      | (with_reducible exact crosswaylaw23_awake.mono _)
      | (with_reducible exact LeO.refl _)
      | (with_reducible exact LeO.none _)
      | (with_reducible refine LeO.ite ?_ ?_)
      | (with_reducible refine LeO.bind ?_ (fun _ => ?_))
      | exact ih0 _ _ _ _ _ _ _ _ _ _ _ _ _ _ _ _ _ _ _ _
      | exact ih1 _ _ _ _ _ _ _ _ _ _ _ _ _ _ _ _ _ _ _ _
      | exact ih2 _ _ _ _ _ _ _ _ _ _ _ _ _ _ _ _ _ _ _ _
      | exact ih3 _ _ _ _ _ _ _ _ _ _ _ _ _ _ _ _ _ _ _ _
      | exact clash_Of.mono _ _ _ _ _ _ _ _ _ _ _ _ _ _ _ _ _ _ _
      | exact crosswaylaw23_awake.mono _
      | exact LeO.none _
      | refine LeO.ite ?_ ?_
      | refine LeO.bind ?_ (fun _ => ?_)
def crosswaylaw23_ClashOf.T2 : Bool × List (List Nat × List Nat) := (true, [([], []), ([0], [0]), ([1], [1]), ([], []), ([3], [3]), ([4], [4]), ([], []), ([6], [6]), ([7], [7]), ([], []), ([9], [9]), ([10], [10]), ([0, 1, 2], []), ([12, 2, 0, 1, 2], [2, 12]), ([0, 1, 2, 3, 4, 5, 12, 13], []), ([14, 5, 13, 0, 1, 2, 3, 4, 5, 12, 13], [5, 14]), ([0, 1, 2, 3, 4, 5, 6, 7, 8, 12, 13, 14, 15], []), ([16, 8, 15, 0, 1, 2, 3, 4, 5, 6, 7, 8, 12, 13, 14, 15], [8, 16]), ([0, 1, 2, 3, 4, 5, 6, 7, 8, 9, 10, 11, 12, 13, 14, 15, 16, 17], []), ([18, 11, 17, 0, 1, 2, 3, 4, 5, 6, 7, 8, 9, 10, 11, 12, 13, 14, 15, 16, 17], [11, 18])])
def crosswaylaw23_ClashOf.B2 : List Nat := [0, 1, 3, 0, 8, 24, 0, 64, 192, 0, 512, 1536, 7, 4103, 12351, 28735, 61951, 127487, 262143, 524287]
theorem crosswaylaw23_ClashOf.tab2 : rtab .any (opsOf Try.f10 2) = crosswaylaw23_ClashOf.T2 := by kernel_rfl
theorem crosswaylaw23_ClashOf.bits2 : waitsOk crosswaylaw23_ClashOf.T2.2 crosswaylaw23_ClashOf.B2 = true := by kernel_rfl
set_option maxHeartbeats 8000000 in
set_option maxRecDepth 100000 in
theorem crosswaylaw23_ClashOf.calls (k : Nat) (a0_0 : Int) (a0_1 : Int) (a0_2 : Int) (a0_3 : Int) (a0_4 : Int) (a0_5 : Int) (a0_6 : Int) (a0_7 : Int) (a0_8 : Int) (a0_9 : Int) (a0_10 : Int) (a0_11 : Int) (a0_12 : Int) (a0_13 : Int) (a0_14 : ByteArray) (a0_15 : ByteArray) (a1 : Int) (a2 : Int) (r : Bool) (w : World) (h : crosswaylaw23_ClashOf.f k a0_0 a0_1 a0_2 a0_3 a0_4 a0_5 a0_6 a0_7 a0_8 a0_9 a0_10 a0_11 a0_12 a0_13 a0_14 a0_15 a1 a2 = some r) :
    Calls Try.prog 10 #[.agg #[.int .i64 a0_0, .int .u32 a0_1, .int .u32 a0_2, .int .u32 a0_3, .int .u32 a0_4, .int .u32 a0_5, .int .u32 a0_6, .int .i64 a0_7, .int .i64 a0_8, .int .u32 a0_9, .int .i64 a0_10, .int .i64 a0_11, .int .u32 a0_12, .int .u32 a0_13, .string a0_14, .string a0_15], .int .u32 a1, .int .u32 a2] w fun e w' => e = .returned (.bool r) ∧ Below w.heap.size w w' := by
  have hu45 := Try.underlying45
  have HB := Aside0.mk (Below.refl w.heap.size w)
  have H : (if (Go.bits .and .u32 a0_1 1) = (Go.bits .and .u32 a1 1) then (if (Go.bits .and .u32 a2 1) = 0 then (crosswaylaw23_ClashOf.j0 k (Go.bits .and .u32 a1 1) (Go.bits .and .u32 a2 1) 0 false a0_0 (Go.bits .and .u32 a0_1 1) (Go.bits .and .u32 a0_2 1) a0_3 a0_4 a0_5 a0_6 a0_7 a0_8 a0_9 a0_10 a0_11 (Go.bits .and .u32 a0_12 1) (Go.bits .and .u32 a0_13 1) a0_14 a0_15) else (crosswaylaw23_ClashOf.j0 k (Go.bits .and .u32 a1 1) (Go.bits .and .u32 a2 1) 0 ((Go.bits .and .u32 a0_2 1) == (Go.bits .and .u32 a2 1)) a0_0 (Go.bits .and .u32 a0_1 1) (Go.bits .and .u32 a0_2 1) a0_3 a0_4 a0_5 a0_6 a0_7 a0_8 a0_9 a0_10 a0_11 (Go.bits .and .u32 a0_12 1) (Go.bits .and .u32 a0_13 1) a0_14 a0_15)) else (crosswaylaw23_ClashOf.j0 k (Go.bits .and .u32 a1 1) (Go.bits .and .u32 a2 1) 0 false a0_0 (Go.bits .and .u32 a0_1 1) (Go.bits .and .u32 a0_2 1) a0_3 a0_4 a0_5 a0_6 a0_7 a0_8 a0_9 a0_10 a0_11 (Go.bits .and .u32 a0_12 1) (Go.bits .and .u32 a0_13 1) a0_14 a0_15)) = some r := h
  clear h
  have HC4 := Aside0.mk H
  clear H
  go_enter Try.func10, Try.ntmps10
  try go_wp2_with (first | ((with_reducible refine gate_dst (N := 3) rfl ?_); refine box_event ?hg (N := 3) ?hd (cs := #[.int .i64 a0_0, .int .u32 a0_1, .int .u32 a0_2, .int .u32 a0_3, .int .u32 a0_4, .int .u32 a0_5, .int .u32 a0_6, .int .i64 a0_7, .int .i64 a0_8, .int .u32 a0_9, .int .i64 a0_10, .int .i64 a0_11, .int .u32 a0_12, .int .u32 a0_13, .string a0_14, .string a0_15]) (t := 45) ?hr ?_; (case hd => rfl); (case hg => rfl); (case hr => first | (go_simp; done) | (go_simp; rfl)); intro gb104 hg w5 hbox hb; have n0_ := Aside0.mk (below_step (by repeat (first | (with_reducible first | exact HB.out | apply below_alloc | apply pw_below_drewN | apply below_drew1) | exact HB.out)) hb); have n1_ := Aside0.mk (hbox); have n2_ := Aside0.mk ((by rw [hg]; exact (below_size (by repeat (first | (with_reducible first | exact HB.out | apply below_alloc | apply pw_below_drewN | apply below_drew1) | exact HB.out))) : w.heap.size ≤ gb104)); have n3_ := Aside0.mk ((by rw [hg]; exact (below_size (by repeat (first | (with_reducible first | exact HB.out | apply below_alloc | apply pw_below_drewN | apply below_drew1) | exact HB.out))) : w.heap.size ≤ gb104)); clear HB; have HB := n0_; have BK104 := n1_; have GW104 := n2_; have GE104 := n3_; clear n0_ n1_ n2_ n3_; clear hb hbox hg; have hcz6_0 : w5.cell? ⟨gb104, 0, none⟩ = some (.int .i64 a0_0) := (blk_cell BK104.out 0).trans rfl; have hcz6_1 : w5.cell? ⟨gb104, 1, none⟩ = some (.int .u32 a0_1) := (blk_cell BK104.out 1).trans rfl; have hcz6_2 : w5.cell? ⟨gb104, 2, none⟩ = some (.int .u32 a0_2) := (blk_cell BK104.out 2).trans rfl; have hcz6_3 : w5.cell? ⟨gb104, 3, none⟩ = some (.int .u32 a0_3) := (blk_cell BK104.out 3).trans rfl; have hcz6_4 : w5.cell? ⟨gb104, 4, none⟩ = some (.int .u32 a0_4) := (blk_cell BK104.out 4).trans rfl; have hcz6_5 : w5.cell? ⟨gb104, 5, none⟩ = some (.int .u32 a0_5) := (blk_cell BK104.out 5).trans rfl; have hcz6_6 : w5.cell? ⟨gb104, 6, none⟩ = some (.int .u32 a0_6) := (blk_cell BK104.out 6).trans rfl; have hcz6_7 : w5.cell? ⟨gb104, 7, none⟩ = some (.int .i64 a0_7) := (blk_cell BK104.out 7).trans rfl; have hcz6_8 : w5.cell? ⟨gb104, 8, none⟩ = some (.int .i64 a0_8) := (blk_cell BK104.out 8).trans rfl; have hcz6_9 : w5.cell? ⟨gb104, 9, none⟩ = some (.int .u32 a0_9) := (blk_cell BK104.out 9).trans rfl; have hcz6_10 : w5.cell? ⟨gb104, 10, none⟩ = some (.int .i64 a0_10) := (blk_cell BK104.out 10).trans rfl; have hcz6_11 : w5.cell? ⟨gb104, 11, none⟩ = some (.int .i64 a0_11) := (blk_cell BK104.out 11).trans rfl; have hcz6_12 : w5.cell? ⟨gb104, 12, none⟩ = some (.int .u32 a0_12) := (blk_cell BK104.out 12).trans rfl; have hcz6_13 : w5.cell? ⟨gb104, 13, none⟩ = some (.int .u32 a0_13) := (blk_cell BK104.out 13).trans rfl; have hcz6_14 : w5.cell? ⟨gb104, 14, none⟩ = some (.string a0_14) := (blk_cell BK104.out 14).trans rfl; have hcz6_15 : w5.cell? ⟨gb104, 15, none⟩ = some (.string a0_15) := (blk_cell BK104.out 15).trans rfl; have hfz6_0 := blk_frozen BK104.out 0; have hfz6_1 := blk_frozen BK104.out 1; have hfz6_2 := blk_frozen BK104.out 2; have hfz6_3 := blk_frozen BK104.out 3; have hfz6_4 := blk_frozen BK104.out 4; have hfz6_5 := blk_frozen BK104.out 5; have hfz6_6 := blk_frozen BK104.out 6; have hfz6_7 := blk_frozen BK104.out 7; have hfz6_8 := blk_frozen BK104.out 8; have hfz6_9 := blk_frozen BK104.out 9; have hfz6_10 := blk_frozen BK104.out 10; have hfz6_11 := blk_frozen BK104.out 11; have hfz6_12 := blk_frozen BK104.out 12; have hfz6_13 := blk_frozen BK104.out 13; have hfz6_14 := blk_frozen BK104.out 14; have hfz6_15 := blk_frozen BK104.out 15) | ((with_reducible refine gate_dst (N := 7) rfl ?_); refine box_event ?hg (N := 7) ?hd (cs := #[.int .i64 0, .int .u32 0, .int .u32 0, .int .u32 0, .int .u32 0, .int .u32 0, .int .u32 0, .int .i64 0, .int .i64 0, .int .u32 0, .int .i64 0, .int .i64 0, .int .u32 0, .int .u32 0, .string (⟨#[]⟩ : ByteArray), .string (⟨#[]⟩ : ByteArray)]) (t := 45) ?hr ?_; (case hd => rfl); (case hg => rfl); (case hr => first | (go_simp; done) | (go_simp; rfl)); intro gb105 hg w7 hbox hb; have n0_ := Aside0.mk (blk_below (g := gb104) (o := .cells #[.int .i64 a0_0, .int .u32 a0_1, .int .u32 a0_2, .int .u32 a0_3, .int .u32 a0_4, .int .u32 a0_5, .int .u32 a0_6, .int .i64 a0_7, .int .i64 a0_8, .int .u32 a0_9, .int .i64 a0_10, .int .i64 a0_11, .int .u32 a0_12, .int .u32 a0_13, .string a0_14, .string a0_15] 45 (0, 0)) (by (with_reducible repeat (first | refine blk_drewN ?_ _ | refine blk_drew ?_ | refine blk_alloc ?_ _)); exact BK104.out) hb); have n1_ := Aside0.mk (below_step (by repeat (first | (with_reducible first | exact HB.out | apply below_alloc | apply pw_below_drewN | apply below_drew1 | refine below_set ?_ GE104.out) | exact HB.out)) hb); have n2_ := Aside0.mk (hbox); have n3_ := Aside0.mk ((by rw [hg]; exact (below_size (by repeat (first | (with_reducible first | exact HB.out | apply below_alloc | apply pw_below_drewN | apply below_drew1 | refine below_set ?_ GE104.out) | exact HB.out))) : w.heap.size ≤ gb105)); have n4_ := Aside0.mk ((by rw [hg]; exact (below_size (by repeat (first | (with_reducible first | exact HB.out | apply below_alloc | apply pw_below_drewN | apply below_drew1 | refine below_set ?_ GE104.out) | exact HB.out))) : w.heap.size ≤ gb105)); have n5_ := Aside0.mk ((by rw [hg]; exact Nat.ne_of_lt (blk_lt (g := gb104) (o := .cells #[.int .i64 a0_0, .int .u32 a0_1, .int .u32 a0_2, .int .u32 a0_3, .int .u32 a0_4, .int .u32 a0_5, .int .u32 a0_6, .int .i64 a0_7, .int .i64 a0_8, .int .u32 a0_9, .int .i64 a0_10, .int .i64 a0_11, .int .u32 a0_12, .int .u32 a0_13, .string a0_14, .string a0_15] 45 (0, 0)) (by (with_reducible repeat (first | refine blk_drewN ?_ _ | refine blk_drew ?_ | refine blk_alloc ?_ _)); exact BK104.out)) : gb104 ≠ gb105)); have n6_ := Aside0.mk ((by rw [hg]; exact Nat.ne_of_gt (blk_lt (g := gb104) (o := .cells #[.int .i64 a0_0, .int .u32 a0_1, .int .u32 a0_2, .int .u32 a0_3, .int .u32 a0_4, .int .u32 a0_5, .int .u32 a0_6, .int .i64 a0_7, .int .i64 a0_8, .int .u32 a0_9, .int .i64 a0_10, .int .i64 a0_11, .int .u32 a0_12, .int .u32 a0_13, .string a0_14, .string a0_15] 45 (0, 0)) (by (with_reducible repeat (first | refine blk_drewN ?_ _ | refine blk_drew ?_ | refine blk_alloc ?_ _)); exact BK104.out)) : gb105 ≠ gb104)); clear BK104; clear HB; have BK104 := n0_; have HB := n1_; have BK105 := n2_; have GW105 := n3_; have GE105 := n4_; have NB104_105 := n5_; have NB105_104 := n6_; clear n0_ n1_ n2_ n3_ n4_ n5_ n6_; clear hb hbox hg; have hnb8 := NB105_104.out; have hnc8 := NB104_105.out; have hcz9_0 : w7.cell? ⟨gb105, 0, none⟩ = some (.int .i64 0) := (blk_cell BK105.out 0).trans rfl; have hcz9_1 : w7.cell? ⟨gb105, 1, none⟩ = some (.int .u32 0) := (blk_cell BK105.out 1).trans rfl; have hcz9_2 : w7.cell? ⟨gb105, 2, none⟩ = some (.int .u32 0) := (blk_cell BK105.out 2).trans rfl; have hcz9_3 : w7.cell? ⟨gb105, 3, none⟩ = some (.int .u32 0) := (blk_cell BK105.out 3).trans rfl; have hcz9_4 : w7.cell? ⟨gb105, 4, none⟩ = some (.int .u32 0) := (blk_cell BK105.out 4).trans rfl; have hcz9_5 : w7.cell? ⟨gb105, 5, none⟩ = some (.int .u32 0) := (blk_cell BK105.out 5).trans rfl; have hcz9_6 : w7.cell? ⟨gb105, 6, none⟩ = some (.int .u32 0) := (blk_cell BK105.out 6).trans rfl; have hcz9_7 : w7.cell? ⟨gb105, 7, none⟩ = some (.int .i64 0) := (blk_cell BK105.out 7).trans rfl; have hcz9_8 : w7.cell? ⟨gb105, 8, none⟩ = some (.int .i64 0) := (blk_cell BK105.out 8).trans rfl; have hcz9_9 : w7.cell? ⟨gb105, 9, none⟩ = some (.int .u32 0) := (blk_cell BK105.out 9).trans rfl; have hcz9_10 : w7.cell? ⟨gb105, 10, none⟩ = some (.int .i64 0) := (blk_cell BK105.out 10).trans rfl; have hcz9_11 : w7.cell? ⟨gb105, 11, none⟩ = some (.int .i64 0) := (blk_cell BK105.out 11).trans rfl; have hcz9_12 : w7.cell? ⟨gb105, 12, none⟩ = some (.int .u32 0) := (blk_cell BK105.out 12).trans rfl; have hcz9_13 : w7.cell? ⟨gb105, 13, none⟩ = some (.int .u32 0) := (blk_cell BK105.out 13).trans rfl; have hcz9_14 : w7.cell? ⟨gb105, 14, none⟩ = some (.string (⟨#[]⟩ : ByteArray)) := (blk_cell BK105.out 14).trans rfl; have hcz9_15 : w7.cell? ⟨gb105, 15, none⟩ = some (.string (⟨#[]⟩ : ByteArray)) := (blk_cell BK105.out 15).trans rfl; have hfz9_0 := blk_frozen BK105.out 0; have hfz9_1 := blk_frozen BK105.out 1; have hfz9_2 := blk_frozen BK105.out 2; have hfz9_3 := blk_frozen BK105.out 3; have hfz9_4 := blk_frozen BK105.out 4; have hfz9_5 := blk_frozen BK105.out 5; have hfz9_6 := blk_frozen BK105.out 6; have hfz9_7 := blk_frozen BK105.out 7; have hfz9_8 := blk_frozen BK105.out 8; have hfz9_9 := blk_frozen BK105.out 9; have hfz9_10 := blk_frozen BK105.out 10; have hfz9_11 := blk_frozen BK105.out 11; have hfz9_12 := blk_frozen BK105.out 12; have hfz9_13 := blk_frozen BK105.out 13; have hfz9_14 := blk_frozen BK105.out 14; have hfz9_15 := blk_frozen BK105.out 15))
  have n0_ : Aside0 (((((((((((((((((w7.setCell ⟨gb105, 0, none⟩ (.int .i64 a0_0)).setCell ⟨gb105, 1, none⟩ (.int .u32 a0_1)).setCell ⟨gb105, 2, none⟩ (.int .u32 a0_2)).setCell ⟨gb105, 3, none⟩ (.int .u32 a0_3)).setCell ⟨gb105, 4, none⟩ (.int .u32 a0_4)).setCell ⟨gb105, 5, none⟩ (.int .u32 a0_5)).setCell ⟨gb105, 6, none⟩ (.int .u32 a0_6)).setCell ⟨gb105, 7, none⟩ (.int .i64 a0_7)).setCell ⟨gb105, 8, none⟩ (.int .i64 a0_8)).setCell ⟨gb105, 9, none⟩ (.int .u32 a0_9)).setCell ⟨gb105, 10, none⟩ (.int .i64 a0_10)).setCell ⟨gb105, 11, none⟩ (.int .i64 a0_11)).setCell ⟨gb105, 12, none⟩ (.int .u32 a0_12)).setCell ⟨gb105, 13, none⟩ (.int .u32 a0_13)).setCell ⟨gb105, 14, none⟩ (.string a0_14)).setCell ⟨gb105, 15, none⟩ (.string a0_15)).heap[gb104]? = some (.cells #[.int .i64 a0_0, .int .u32 a0_1, .int .u32 a0_2, .int .u32 a0_3, .int .u32 a0_4, .int .u32 a0_5, .int .u32 a0_6, .int .i64 a0_7, .int .i64 a0_8, .int .u32 a0_9, .int .i64 a0_10, .int .i64 a0_11, .int .u32 a0_12, .int .u32 a0_13, .string a0_14, .string a0_15] 45 (0, 0))) := ⟨by (with_reducible repeat (first | refine blk_drewN ?_ _ | refine blk_drew ?_ | refine blk_alloc ?_ _)); refine blk_far ?_ NB104_105.out _; (with_reducible repeat (first | refine blk_drewN ?_ _ | refine blk_drew ?_ | refine blk_alloc ?_ _)); refine blk_far ?_ NB104_105.out _; (with_reducible repeat (first | refine blk_drewN ?_ _ | refine blk_drew ?_ | refine blk_alloc ?_ _)); refine blk_far ?_ NB104_105.out _; (with_reducible repeat (first | refine blk_drewN ?_ _ | refine blk_drew ?_ | refine blk_alloc ?_ _)); refine blk_far ?_ NB104_105.out _; (with_reducible repeat (first | refine blk_drewN ?_ _ | refine blk_drew ?_ | refine blk_alloc ?_ _)); refine blk_far ?_ NB104_105.out _; (with_reducible repeat (first | refine blk_drewN ?_ _ | refine blk_drew ?_ | refine blk_alloc ?_ _)); refine blk_far ?_ NB104_105.out _; (with_reducible repeat (first | refine blk_drewN ?_ _ | refine blk_drew ?_ | refine blk_alloc ?_ _)); refine blk_far ?_ NB104_105.out _; (with_reducible repeat (first | refine blk_drewN ?_ _ | refine blk_drew ?_ | refine blk_alloc ?_ _)); refine blk_far ?_ NB104_105.out _; (with_reducible repeat (first | refine blk_drewN ?_ _ | refine blk_drew ?_ | refine blk_alloc ?_ _)); refine blk_far ?_ NB104_105.out _; (with_reducible repeat (first | refine blk_drewN ?_ _ | refine blk_drew ?_ | refine blk_alloc ?_ _)); refine blk_far ?_ NB104_105.out _; (with_reducible repeat (first | refine blk_drewN ?_ _ | refine blk_drew ?_ | refine blk_alloc ?_ _)); refine blk_far ?_ NB104_105.out _; (with_reducible repeat (first | refine blk_drewN ?_ _ | refine blk_drew ?_ | refine blk_alloc ?_ _)); refine blk_far ?_ NB104_105.out _; (with_reducible repeat (first | refine blk_drewN ?_ _ | refine blk_drew ?_ | refine blk_alloc ?_ _)); refine blk_far ?_ NB104_105.out _; (with_reducible repeat (first | refine blk_drewN ?_ _ | refine blk_drew ?_ | refine blk_alloc ?_ _)); refine blk_far ?_ NB104_105.out _; (with_reducible repeat (first | refine blk_drewN ?_ _ | refine blk_drew ?_ | refine blk_alloc ?_ _)); refine blk_far ?_ NB104_105.out _; (with_reducible repeat (first | refine blk_drewN ?_ _ | refine blk_drew ?_ | refine blk_alloc ?_ _)); refine blk_far ?_ NB104_105.out _; (with_reducible repeat (first | refine blk_drewN ?_ _ | refine blk_drew ?_ | refine blk_alloc ?_ _)); exact BK104.out⟩
  have n1_ : Aside0 (((((((((((((((((w7.setCell ⟨gb105, 0, none⟩ (.int .i64 a0_0)).setCell ⟨gb105, 1, none⟩ (.int .u32 a0_1)).setCell ⟨gb105, 2, none⟩ (.int .u32 a0_2)).setCell ⟨gb105, 3, none⟩ (.int .u32 a0_3)).setCell ⟨gb105, 4, none⟩ (.int .u32 a0_4)).setCell ⟨gb105, 5, none⟩ (.int .u32 a0_5)).setCell ⟨gb105, 6, none⟩ (.int .u32 a0_6)).setCell ⟨gb105, 7, none⟩ (.int .i64 a0_7)).setCell ⟨gb105, 8, none⟩ (.int .i64 a0_8)).setCell ⟨gb105, 9, none⟩ (.int .u32 a0_9)).setCell ⟨gb105, 10, none⟩ (.int .i64 a0_10)).setCell ⟨gb105, 11, none⟩ (.int .i64 a0_11)).setCell ⟨gb105, 12, none⟩ (.int .u32 a0_12)).setCell ⟨gb105, 13, none⟩ (.int .u32 a0_13)).setCell ⟨gb105, 14, none⟩ (.string a0_14)).setCell ⟨gb105, 15, none⟩ (.string a0_15)).heap[gb105]? = some (.cells #[.int .i64 a0_0, .int .u32 a0_1, .int .u32 a0_2, .int .u32 a0_3, .int .u32 a0_4, .int .u32 a0_5, .int .u32 a0_6, .int .i64 a0_7, .int .i64 a0_8, .int .u32 a0_9, .int .i64 a0_10, .int .i64 a0_11, .int .u32 a0_12, .int .u32 a0_13, .string a0_14, .string a0_15] 45 (0, 0))) := ⟨by (with_reducible repeat (first | refine blk_drewN ?_ _ | refine blk_drew ?_ | refine blk_alloc ?_ _)); refine blk_put (cs := #[.int .i64 a0_0, .int .u32 a0_1, .int .u32 a0_2, .int .u32 a0_3, .int .u32 a0_4, .int .u32 a0_5, .int .u32 a0_6, .int .i64 a0_7, .int .i64 a0_8, .int .u32 a0_9, .int .i64 a0_10, .int .i64 a0_11, .int .u32 a0_12, .int .u32 a0_13, .string a0_14, .string (⟨#[]⟩ : ByteArray)]) ?_ 15 _ rfl; (with_reducible repeat (first | refine blk_drewN ?_ _ | refine blk_drew ?_ | refine blk_alloc ?_ _)); refine blk_put (cs := #[.int .i64 a0_0, .int .u32 a0_1, .int .u32 a0_2, .int .u32 a0_3, .int .u32 a0_4, .int .u32 a0_5, .int .u32 a0_6, .int .i64 a0_7, .int .i64 a0_8, .int .u32 a0_9, .int .i64 a0_10, .int .i64 a0_11, .int .u32 a0_12, .int .u32 a0_13, .string (⟨#[]⟩ : ByteArray), .string (⟨#[]⟩ : ByteArray)]) ?_ 14 _ rfl; (with_reducible repeat (first | refine blk_drewN ?_ _ | refine blk_drew ?_ | refine blk_alloc ?_ _)); refine blk_put (cs := #[.int .i64 a0_0, .int .u32 a0_1, .int .u32 a0_2, .int .u32 a0_3, .int .u32 a0_4, .int .u32 a0_5, .int .u32 a0_6, .int .i64 a0_7, .int .i64 a0_8, .int .u32 a0_9, .int .i64 a0_10, .int .i64 a0_11, .int .u32 a0_12, .int .u32 0, .string (⟨#[]⟩ : ByteArray), .string (⟨#[]⟩ : ByteArray)]) ?_ 13 _ rfl; (with_reducible repeat (first | refine blk_drewN ?_ _ | refine blk_drew ?_ | refine blk_alloc ?_ _)); refine blk_put (cs := #[.int .i64 a0_0, .int .u32 a0_1, .int .u32 a0_2, .int .u32 a0_3, .int .u32 a0_4, .int .u32 a0_5, .int .u32 a0_6, .int .i64 a0_7, .int .i64 a0_8, .int .u32 a0_9, .int .i64 a0_10, .int .i64 a0_11, .int .u32 0, .int .u32 0, .string (⟨#[]⟩ : ByteArray), .string (⟨#[]⟩ : ByteArray)]) ?_ 12 _ rfl; (with_reducible repeat (first | refine blk_drewN ?_ _ | refine blk_drew ?_ | refine blk_alloc ?_ _)); refine blk_put (cs := #[.int .i64 a0_0, .int .u32 a0_1, .int .u32 a0_2, .int .u32 a0_3, .int .u32 a0_4, .int .u32 a0_5, .int .u32 a0_6, .int .i64 a0_7, .int .i64 a0_8, .int .u32 a0_9, .int .i64 a0_10, .int .i64 0, .int .u32 0, .int .u32 0, .string (⟨#[]⟩ : ByteArray), .string (⟨#[]⟩ : ByteArray)]) ?_ 11 _ rfl; (with_reducible repeat (first | refine blk_drewN ?_ _ | refine blk_drew ?_ | refine blk_alloc ?_ _)); refine blk_put (cs := #[.int .i64 a0_0, .int .u32 a0_1, .int .u32 a0_2, .int .u32 a0_3, .int .u32 a0_4, .int .u32 a0_5, .int .u32 a0_6, .int .i64 a0_7, .int .i64 a0_8, .int .u32 a0_9, .int .i64 0, .int .i64 0, .int .u32 0, .int .u32 0, .string (⟨#[]⟩ : ByteArray), .string (⟨#[]⟩ : ByteArray)]) ?_ 10 _ rfl; (with_reducible repeat (first | refine blk_drewN ?_ _ | refine blk_drew ?_ | refine blk_alloc ?_ _)); refine blk_put (cs := #[.int .i64 a0_0, .int .u32 a0_1, .int .u32 a0_2, .int .u32 a0_3, .int .u32 a0_4, .int .u32 a0_5, .int .u32 a0_6, .int .i64 a0_7, .int .i64 a0_8, .int .u32 0, .int .i64 0, .int .i64 0, .int .u32 0, .int .u32 0, .string (⟨#[]⟩ : ByteArray), .string (⟨#[]⟩ : ByteArray)]) ?_ 9 _ rfl; (with_reducible repeat (first | refine blk_drewN ?_ _ | refine blk_drew ?_ | refine blk_alloc ?_ _)); refine blk_put (cs := #[.int .i64 a0_0, .int .u32 a0_1, .int .u32 a0_2, .int .u32 a0_3, .int .u32 a0_4, .int .u32 a0_5, .int .u32 a0_6, .int .i64 a0_7, .int .i64 0, .int .u32 0, .int .i64 0, .int .i64 0, .int .u32 0, .int .u32 0, .string (⟨#[]⟩ : ByteArray), .string (⟨#[]⟩ : ByteArray)]) ?_ 8 _ rfl; (with_reducible repeat (first | refine blk_drewN ?_ _ | refine blk_drew ?_ | refine blk_alloc ?_ _)); refine blk_put (cs := #[.int .i64 a0_0, .int .u32 a0_1, .int .u32 a0_2, .int .u32 a0_3, .int .u32 a0_4, .int .u32 a0_5, .int .u32 a0_6, .int .i64 0, .int .i64 0, .int .u32 0, .int .i64 0, .int .i64 0, .int .u32 0, .int .u32 0, .string (⟨#[]⟩ : ByteArray), .string (⟨#[]⟩ : ByteArray)]) ?_ 7 _ rfl; (with_reducible repeat (first | refine blk_drewN ?_ _ | refine blk_drew ?_ | refine blk_alloc ?_ _)); refine blk_put (cs := #[.int .i64 a0_0, .int .u32 a0_1, .int .u32 a0_2, .int .u32 a0_3, .int .u32 a0_4, .int .u32 a0_5, .int .u32 0, .int .i64 0, .int .i64 0, .int .u32 0, .int .i64 0, .int .i64 0, .int .u32 0, .int .u32 0, .string (⟨#[]⟩ : ByteArray), .string (⟨#[]⟩ : ByteArray)]) ?_ 6 _ rfl; (with_reducible repeat (first | refine blk_drewN ?_ _ | refine blk_drew ?_ | refine blk_alloc ?_ _)); refine blk_put (cs := #[.int .i64 a0_0, .int .u32 a0_1, .int .u32 a0_2, .int .u32 a0_3, .int .u32 a0_4, .int .u32 0, .int .u32 0, .int .i64 0, .int .i64 0, .int .u32 0, .int .i64 0, .int .i64 0, .int .u32 0, .int .u32 0, .string (⟨#[]⟩ : ByteArray), .string (⟨#[]⟩ : ByteArray)]) ?_ 5 _ rfl; (with_reducible repeat (first | refine blk_drewN ?_ _ | refine blk_drew ?_ | refine blk_alloc ?_ _)); refine blk_put (cs := #[.int .i64 a0_0, .int .u32 a0_1, .int .u32 a0_2, .int .u32 a0_3, .int .u32 0, .int .u32 0, .int .u32 0, .int .i64 0, .int .i64 0, .int .u32 0, .int .i64 0, .int .i64 0, .int .u32 0, .int .u32 0, .string (⟨#[]⟩ : ByteArray), .string (⟨#[]⟩ : ByteArray)]) ?_ 4 _ rfl; (with_reducible repeat (first | refine blk_drewN ?_ _ | refine blk_drew ?_ | refine blk_alloc ?_ _)); refine blk_put (cs := #[.int .i64 a0_0, .int .u32 a0_1, .int .u32 a0_2, .int .u32 0, .int .u32 0, .int .u32 0, .int .u32 0, .int .i64 0, .int .i64 0, .int .u32 0, .int .i64 0, .int .i64 0, .int .u32 0, .int .u32 0, .string (⟨#[]⟩ : ByteArray), .string (⟨#[]⟩ : ByteArray)]) ?_ 3 _ rfl; (with_reducible repeat (first | refine blk_drewN ?_ _ | refine blk_drew ?_ | refine blk_alloc ?_ _)); refine blk_put (cs := #[.int .i64 a0_0, .int .u32 a0_1, .int .u32 0, .int .u32 0, .int .u32 0, .int .u32 0, .int .u32 0, .int .i64 0, .int .i64 0, .int .u32 0, .int .i64 0, .int .i64 0, .int .u32 0, .int .u32 0, .string (⟨#[]⟩ : ByteArray), .string (⟨#[]⟩ : ByteArray)]) ?_ 2 _ rfl; (with_reducible repeat (first | refine blk_drewN ?_ _ | refine blk_drew ?_ | refine blk_alloc ?_ _)); refine blk_put (cs := #[.int .i64 a0_0, .int .u32 0, .int .u32 0, .int .u32 0, .int .u32 0, .int .u32 0, .int .u32 0, .int .i64 0, .int .i64 0, .int .u32 0, .int .i64 0, .int .i64 0, .int .u32 0, .int .u32 0, .string (⟨#[]⟩ : ByteArray), .string (⟨#[]⟩ : ByteArray)]) ?_ 1 _ rfl; (with_reducible repeat (first | refine blk_drewN ?_ _ | refine blk_drew ?_ | refine blk_alloc ?_ _)); refine blk_put (cs := #[.int .i64 0, .int .u32 0, .int .u32 0, .int .u32 0, .int .u32 0, .int .u32 0, .int .u32 0, .int .i64 0, .int .i64 0, .int .u32 0, .int .i64 0, .int .i64 0, .int .u32 0, .int .u32 0, .string (⟨#[]⟩ : ByteArray), .string (⟨#[]⟩ : ByteArray)]) ?_ 0 _ rfl; (with_reducible repeat (first | refine blk_drewN ?_ _ | refine blk_drew ?_ | refine blk_alloc ?_ _)); exact BK105.out⟩
  have n2_ : Aside0 (Below w.heap.size w ((((((((((((((((w7.setCell ⟨gb105, 0, none⟩ (.int .i64 a0_0)).setCell ⟨gb105, 1, none⟩ (.int .u32 a0_1)).setCell ⟨gb105, 2, none⟩ (.int .u32 a0_2)).setCell ⟨gb105, 3, none⟩ (.int .u32 a0_3)).setCell ⟨gb105, 4, none⟩ (.int .u32 a0_4)).setCell ⟨gb105, 5, none⟩ (.int .u32 a0_5)).setCell ⟨gb105, 6, none⟩ (.int .u32 a0_6)).setCell ⟨gb105, 7, none⟩ (.int .i64 a0_7)).setCell ⟨gb105, 8, none⟩ (.int .i64 a0_8)).setCell ⟨gb105, 9, none⟩ (.int .u32 a0_9)).setCell ⟨gb105, 10, none⟩ (.int .i64 a0_10)).setCell ⟨gb105, 11, none⟩ (.int .i64 a0_11)).setCell ⟨gb105, 12, none⟩ (.int .u32 a0_12)).setCell ⟨gb105, 13, none⟩ (.int .u32 a0_13)).setCell ⟨gb105, 14, none⟩ (.string a0_14)).setCell ⟨gb105, 15, none⟩ (.string a0_15))) := ⟨by repeat (first | (with_reducible first | exact HB.out | apply below_alloc | apply pw_below_drewN | apply below_drew1 | refine below_set ?_ GE104.out | refine below_set ?_ GE105.out) | exact HB.out)⟩
  (try clear BK104)
  (try clear BK105)
  (try clear HB)
  generalize ((((((((((((((((w7.setCell ⟨gb105, 0, none⟩ (.int .i64 a0_0)).setCell ⟨gb105, 1, none⟩ (.int .u32 a0_1)).setCell ⟨gb105, 2, none⟩ (.int .u32 a0_2)).setCell ⟨gb105, 3, none⟩ (.int .u32 a0_3)).setCell ⟨gb105, 4, none⟩ (.int .u32 a0_4)).setCell ⟨gb105, 5, none⟩ (.int .u32 a0_5)).setCell ⟨gb105, 6, none⟩ (.int .u32 a0_6)).setCell ⟨gb105, 7, none⟩ (.int .i64 a0_7)).setCell ⟨gb105, 8, none⟩ (.int .i64 a0_8)).setCell ⟨gb105, 9, none⟩ (.int .u32 a0_9)).setCell ⟨gb105, 10, none⟩ (.int .i64 a0_10)).setCell ⟨gb105, 11, none⟩ (.int .i64 a0_11)).setCell ⟨gb105, 12, none⟩ (.int .u32 a0_12)).setCell ⟨gb105, 13, none⟩ (.int .u32 a0_13)).setCell ⟨gb105, 14, none⟩ (.string a0_14)).setCell ⟨gb105, 15, none⟩ (.string a0_15)) = w10 at n0_ n1_ n2_ ⊢
  have BK104 := n0_
  have BK105 := n1_
  have HB := n2_
  clear n0_ n1_ n2_
  have n0_ := Aside0.mk (blk_drew BK104.out)
  have n1_ := Aside0.mk (blk_drew BK105.out)
  have n2_ := Aside0.mk (below_drew1 HB.out)
  clear BK104
  clear BK105
  clear HB
  have BK104 := n0_
  have BK105 := n1_
  have HB := n2_
  clear n0_ n1_ n2_
  refine start_ (n := 20) (S := fun w' => w'.cell? ⟨gb104, 0, none⟩ = some (.int .i64 a0_0) ∧ w'.cell? ⟨gb104, 1, none⟩ = some (.int .u32 a0_1) ∧ w'.cell? ⟨gb104, 2, none⟩ = some (.int .u32 a0_2) ∧ w'.cell? ⟨gb104, 3, none⟩ = some (.int .u32 a0_3) ∧ w'.cell? ⟨gb104, 4, none⟩ = some (.int .u32 a0_4) ∧ w'.cell? ⟨gb104, 5, none⟩ = some (.int .u32 a0_5) ∧ w'.cell? ⟨gb104, 6, none⟩ = some (.int .u32 a0_6) ∧ w'.cell? ⟨gb104, 7, none⟩ = some (.int .i64 a0_7) ∧ w'.cell? ⟨gb104, 8, none⟩ = some (.int .i64 a0_8) ∧ w'.cell? ⟨gb104, 9, none⟩ = some (.int .u32 a0_9) ∧ w'.cell? ⟨gb104, 10, none⟩ = some (.int .i64 a0_10) ∧ w'.cell? ⟨gb104, 11, none⟩ = some (.int .i64 a0_11) ∧ w'.cell? ⟨gb104, 12, none⟩ = some (.int .u32 a0_12) ∧ w'.cell? ⟨gb104, 13, none⟩ = some (.int .u32 a0_13) ∧ w'.cell? ⟨gb104, 14, none⟩ = some (.string a0_14) ∧ w'.cell? ⟨gb104, 15, none⟩ = some (.string a0_15)) (ds := []) #[false, false, false, false, false, false, false, false, false, false, false, false, false, false, false, false, false, false, false, false] (by kernel_rfl) rfl rfl ⟨(blk_cell BK104.out 0).trans rfl, (blk_cell BK104.out 1).trans rfl, (blk_cell BK104.out 2).trans rfl, (blk_cell BK104.out 3).trans rfl, (blk_cell BK104.out 4).trans rfl, (blk_cell BK104.out 5).trans rfl, (blk_cell BK104.out 6).trans rfl, (blk_cell BK104.out 7).trans rfl, (blk_cell BK104.out 8).trans rfl, (blk_cell BK104.out 9).trans rfl, (blk_cell BK104.out 10).trans rfl, (blk_cell BK104.out 11).trans rfl, (blk_cell BK104.out 12).trans rfl, (blk_cell BK104.out 13).trans rfl, (blk_cell BK104.out 14).trans rfl, (blk_cell BK104.out 15).trans rfl⟩ (fun hHeld => ?_); refine with_tabW crosswaylaw23_ClashOf.tab2 crosswaylaw23_ClashOf.bits2 (fun HT_ HW_ => ?_)
  generalize w10.drew = w11 at BK104 BK105 HB hHeld ⊢
  refine pure_ (i := 0) (N := some 12) (v := ?_) (a' := ?_) #[true, false, false, false, false, false, false, false, false, false, false, false, false, false, false, false, false, false, false, false] rfl rfl (any_of HT_.out (by kernel_rfl)) (fun _ _ _ h => h) (Or.inl ⟨by rfl, ?_⟩) ?_ ?_
  rotate_left
  · intro w'
    go_simp
    with_reducible rfl
  rotate_left
  · simp only [Act.put, List.setIfInBounds_toArray, List.set_cons_zero, List.set_cons_succ, i64_w, i32_w]
    rfl
  refine pure_ (i := 3) (N := some 15) (v := ?_) (a' := ?_) #[true, false, false, true, false, false, false, false, false, false, false, false, false, false, false, false, false, false, false, false] rfl rfl (any_of HT_.out (by kernel_rfl)) (fun _ _ _ h => h) (Or.inl ⟨by rfl, ?_⟩) ?_ ?_
  rotate_left
  · intro w'
    go_simp
    with_reducible rfl
  rotate_left
  · simp only [Act.put, List.setIfInBounds_toArray, List.set_cons_zero, List.set_cons_succ, i64_w, i32_w]
    rfl
  refine pure_ (i := 6) (N := some 18) (v := ?_) (a' := ?_) #[true, false, false, true, false, false, true, false, false, false, false, false, false, false, false, false, false, false, false, false] rfl rfl (any_of HT_.out (by kernel_rfl)) (fun _ _ _ h => h) (Or.inl ⟨by rfl, ?_⟩) ?_ ?_
  rotate_left
  · intro w'
    go_simp
    with_reducible rfl
  rotate_left
  · simp only [Act.put, List.setIfInBounds_toArray, List.set_cons_zero, List.set_cons_succ, i64_w, i32_w]
    rfl
  refine pure_ (i := 9) (N := some 21) (v := ?_) (a' := ?_) #[true, false, false, true, false, false, true, false, false, true, false, false, false, false, false, false, false, false, false, false] rfl rfl (any_of HT_.out (by kernel_rfl)) (fun _ _ _ h => h) (Or.inl ⟨by rfl, ?_⟩) ?_ ?_
  rotate_left
  · intro w'
    go_simp
    with_reducible rfl
  rotate_left
  · simp only [Act.put, List.setIfInBounds_toArray, List.set_cons_zero, List.set_cons_succ, i64_w, i32_w]
    rfl
  refine take_ (i := 1) (N := some 13) (v := ?_) (a' := ?_) #[true, true, false, true, false, false, true, false, false, true, false, false, false, false, false, false, false, false, false, false] rfl rfl (take_ofW HT_.out HW_.out (by kernel_rfl)) (fun _ _ _ h => h) (Or.inl ⟨by rfl, ?_⟩) hHeld ?_ ?_
  rotate_left
  · rintro w' ⟨s0, s1, s2, s3, s4, s5, s6, s7, s8, s9, s10, s11, s12, s13, s14, s15⟩
    go_simp
    with_reducible rfl
  rotate_left
  · simp only [Act.put, List.setIfInBounds_toArray, List.set_cons_zero, List.set_cons_succ, i64_w, i32_w]
    rfl
  refine pure_ (i := 2) (N := some 14) (v := ?_) (a' := ?_) #[true, true, true, true, false, false, true, false, false, true, false, false, false, false, false, false, false, false, false, false] rfl rfl (any_of HT_.out (by kernel_rfl)) (fun _ _ _ h => h) (Or.inl ⟨by rfl, ?_⟩) ?_ ?_
  rotate_left
  · intro w'
    go_simp
    with_reducible rfl
  rotate_left
  · simp only [Act.put, List.setIfInBounds_toArray, List.set_cons_zero, List.set_cons_succ, i64_w, i32_w]
    rfl
  refine pure_ (i := 12) (N := some 24) (v := ?_) (a' := ?_) #[true, true, true, true, false, false, true, false, false, true, false, false, true, false, false, false, false, false, false, false] rfl rfl (any_of HT_.out (by kernel_rfl)) (fun _ _ _ h => h) (Or.inl ⟨by rfl, ?_⟩) ?_ ?_
  rotate_left
  · intro w'
    go_simp
    with_reducible rfl
  rotate_left
  · simp only [Act.put, List.setIfInBounds_toArray, List.set_cons_zero, List.set_cons_succ, i64_w, i32_w]
    rfl
  refine take_ (i := 4) (N := some 16) (v := ?_) (a' := ?_) #[true, true, true, true, true, false, true, false, false, true, false, false, true, false, false, false, false, false, false, false] rfl rfl (take_ofW HT_.out HW_.out (by kernel_rfl)) (fun _ _ _ h => h) (Or.inl ⟨by rfl, ?_⟩) hHeld ?_ ?_
  rotate_left
  · rintro w' ⟨s0, s1, s2, s3, s4, s5, s6, s7, s8, s9, s10, s11, s12, s13, s14, s15⟩
    go_simp
    with_reducible rfl
  rotate_left
  · simp only [Act.put, List.setIfInBounds_toArray, List.set_cons_zero, List.set_cons_succ, i64_w, i32_w]
    rfl
  refine pure_ (i := 5) (N := some 17) (v := ?_) (a' := ?_) #[true, true, true, true, true, true, true, false, false, true, false, false, true, false, false, false, false, false, false, false] rfl rfl (any_of HT_.out (by kernel_rfl)) (fun _ _ _ h => h) (Or.inl ⟨by rfl, ?_⟩) ?_ ?_
  rotate_left
  · intro w'
    go_simp
    with_reducible rfl
  rotate_left
  · simp only [Act.put, List.setIfInBounds_toArray, List.set_cons_zero, List.set_cons_succ, i64_w, i32_w]
    rfl
  refine take_ (i := 7) (N := some 19) (v := ?_) (a' := ?_) #[true, true, true, true, true, true, true, true, false, true, false, false, true, false, false, false, false, false, false, false] rfl rfl (take_ofW HT_.out HW_.out (by kernel_rfl)) (fun _ _ _ h => h) (Or.inl ⟨by rfl, ?_⟩) hHeld ?_ ?_
  rotate_left
  · rintro w' ⟨s0, s1, s2, s3, s4, s5, s6, s7, s8, s9, s10, s11, s12, s13, s14, s15⟩
    go_simp
    with_reducible rfl
  rotate_left
  · simp only [Act.put, List.setIfInBounds_toArray, List.set_cons_zero, List.set_cons_succ, i64_w, i32_w]
    rfl
  refine pure_ (i := 8) (N := some 20) (v := ?_) (a' := ?_) #[true, true, true, true, true, true, true, true, true, true, false, false, true, false, false, false, false, false, false, false] rfl rfl (any_of HT_.out (by kernel_rfl)) (fun _ _ _ h => h) (Or.inl ⟨by rfl, ?_⟩) ?_ ?_
  rotate_left
  · intro w'
    go_simp
    with_reducible rfl
  rotate_left
  · simp only [Act.put, List.setIfInBounds_toArray, List.set_cons_zero, List.set_cons_succ, i64_w, i32_w]
    rfl
  refine take_ (i := 10) (N := some 22) (v := ?_) (a' := ?_) #[true, true, true, true, true, true, true, true, true, true, true, false, true, false, false, false, false, false, false, false] rfl rfl (take_ofW HT_.out HW_.out (by kernel_rfl)) (fun _ _ _ h => h) (Or.inl ⟨by rfl, ?_⟩) hHeld ?_ ?_
  rotate_left
  · rintro w' ⟨s0, s1, s2, s3, s4, s5, s6, s7, s8, s9, s10, s11, s12, s13, s14, s15⟩
    go_simp
    with_reducible rfl
  rotate_left
  · simp only [Act.put, List.setIfInBounds_toArray, List.set_cons_zero, List.set_cons_succ, i64_w, i32_w]
    rfl
  refine pure_ (i := 11) (N := some 23) (v := ?_) (a' := ?_) #[true, true, true, true, true, true, true, true, true, true, true, true, true, false, false, false, false, false, false, false] rfl rfl (any_of HT_.out (by kernel_rfl)) (fun _ _ _ h => h) (Or.inl ⟨by rfl, ?_⟩) ?_ ?_
  rotate_left
  · intro w'
    go_simp
    with_reducible rfl
  rotate_left
  · simp only [Act.put, List.setIfInBounds_toArray, List.set_cons_zero, List.set_cons_succ, i64_w, i32_w]
    rfl
  refine one_ (i := 13) (N := none) #[true, true, true, true, true, true, true, true, true, true, true, true, true, true, false, false, false, false, false, false] rfl rfl (one_of HT_.out (by kernel_rfl)) (by decide) (fun K hK => ?_)
  have hs12 : w11.cell? ⟨gb105, 1, none⟩ = some (.int .u32 a0_1) := (blk_cell BK105.out 1).trans rfl
  have hfs12 := blk_frozen BK105.out 1
  have hns12_0 := NB104_105.out
  have hms12_0 := NB105_104.out
  refine skip_ (w1 := ?_) (by rfl) rfl ?_ ?_
  rotate_left
  · go_simp
    rfl
  refine hK.out _ _ ⟨((cell_far (p := ⟨gb105, _, none⟩) NB104_105.out _).trans (hHeld.1)), ((cell_far (p := ⟨gb105, _, none⟩) NB104_105.out _).trans (hHeld.2.1)), ((cell_far (p := ⟨gb105, _, none⟩) NB104_105.out _).trans (hHeld.2.2.1)), ((cell_far (p := ⟨gb105, _, none⟩) NB104_105.out _).trans (hHeld.2.2.2.1)), ((cell_far (p := ⟨gb105, _, none⟩) NB104_105.out _).trans (hHeld.2.2.2.2.1)), ((cell_far (p := ⟨gb105, _, none⟩) NB104_105.out _).trans (hHeld.2.2.2.2.2.1)), ((cell_far (p := ⟨gb105, _, none⟩) NB104_105.out _).trans (hHeld.2.2.2.2.2.2.1)), ((cell_far (p := ⟨gb105, _, none⟩) NB104_105.out _).trans (hHeld.2.2.2.2.2.2.2.1)), ((cell_far (p := ⟨gb105, _, none⟩) NB104_105.out _).trans (hHeld.2.2.2.2.2.2.2.2.1)), ((cell_far (p := ⟨gb105, _, none⟩) NB104_105.out _).trans (hHeld.2.2.2.2.2.2.2.2.2.1)), ((cell_far (p := ⟨gb105, _, none⟩) NB104_105.out _).trans (hHeld.2.2.2.2.2.2.2.2.2.2.1)), ((cell_far (p := ⟨gb105, _, none⟩) NB104_105.out _).trans (hHeld.2.2.2.2.2.2.2.2.2.2.2.1)), ((cell_far (p := ⟨gb105, _, none⟩) NB104_105.out _).trans (hHeld.2.2.2.2.2.2.2.2.2.2.2.2.1)), ((cell_far (p := ⟨gb105, _, none⟩) NB104_105.out _).trans (hHeld.2.2.2.2.2.2.2.2.2.2.2.2.2.1)), ((cell_far (p := ⟨gb105, _, none⟩) NB104_105.out _).trans (hHeld.2.2.2.2.2.2.2.2.2.2.2.2.2.2.1)), ((cell_far (p := ⟨gb105, _, none⟩) NB104_105.out _).trans (hHeld.2.2.2.2.2.2.2.2.2.2.2.2.2.2.2))⟩ (fun hHeld => ?_)
  clear hK K
  refine pure_ (i := 14) (N := some 25) (v := ?_) (a' := ?_) #[true, true, true, true, true, true, true, true, true, true, true, true, true, true, true, false, false, false, false, false] rfl rfl (any_of HT_.out (by kernel_rfl)) (fun _ _ _ h => h) (Or.inl ⟨by rfl, ?_⟩) ?_ ?_
  rotate_left
  · intro w'
    go_simp
    with_reducible rfl
  rotate_left
  · simp only [Act.put, List.setIfInBounds_toArray, List.set_cons_zero, List.set_cons_succ, i64_w, i32_w]
    rfl
  refine one_ (i := 15) (N := none) #[true, true, true, true, true, true, true, true, true, true, true, true, true, true, true, true, false, false, false, false] rfl rfl (one_of HT_.out (by kernel_rfl)) (by decide) (fun K hK => ?_)
  have hs13 : w11.cell? ⟨gb105, 2, none⟩ = some (.int .u32 a0_2) := (blk_cell BK105.out 2).trans rfl
  have hfs13 := blk_frozen BK105.out 2
  have hns13_0 := NB104_105.out
  have hms13_0 := NB105_104.out
  refine skip_ (w1 := ?_) (by rfl) rfl ?_ ?_
  rotate_left
  · go_simp
    rfl
  refine hK.out _ _ ⟨((cell_far (p := ⟨gb105, _, none⟩) NB104_105.out _).trans (hHeld.1)), ((cell_far (p := ⟨gb105, _, none⟩) NB104_105.out _).trans (hHeld.2.1)), ((cell_far (p := ⟨gb105, _, none⟩) NB104_105.out _).trans (hHeld.2.2.1)), ((cell_far (p := ⟨gb105, _, none⟩) NB104_105.out _).trans (hHeld.2.2.2.1)), ((cell_far (p := ⟨gb105, _, none⟩) NB104_105.out _).trans (hHeld.2.2.2.2.1)), ((cell_far (p := ⟨gb105, _, none⟩) NB104_105.out _).trans (hHeld.2.2.2.2.2.1)), ((cell_far (p := ⟨gb105, _, none⟩) NB104_105.out _).trans (hHeld.2.2.2.2.2.2.1)), ((cell_far (p := ⟨gb105, _, none⟩) NB104_105.out _).trans (hHeld.2.2.2.2.2.2.2.1)), ((cell_far (p := ⟨gb105, _, none⟩) NB104_105.out _).trans (hHeld.2.2.2.2.2.2.2.2.1)), ((cell_far (p := ⟨gb105, _, none⟩) NB104_105.out _).trans (hHeld.2.2.2.2.2.2.2.2.2.1)), ((cell_far (p := ⟨gb105, _, none⟩) NB104_105.out _).trans (hHeld.2.2.2.2.2.2.2.2.2.2.1)), ((cell_far (p := ⟨gb105, _, none⟩) NB104_105.out _).trans (hHeld.2.2.2.2.2.2.2.2.2.2.2.1)), ((cell_far (p := ⟨gb105, _, none⟩) NB104_105.out _).trans (hHeld.2.2.2.2.2.2.2.2.2.2.2.2.1)), ((cell_far (p := ⟨gb105, _, none⟩) NB104_105.out _).trans (hHeld.2.2.2.2.2.2.2.2.2.2.2.2.2.1)), ((cell_far (p := ⟨gb105, _, none⟩) NB104_105.out _).trans (hHeld.2.2.2.2.2.2.2.2.2.2.2.2.2.2.1)), ((cell_far (p := ⟨gb105, _, none⟩) NB104_105.out _).trans (hHeld.2.2.2.2.2.2.2.2.2.2.2.2.2.2.2))⟩ (fun hHeld => ?_)
  clear hK K
  refine pure_ (i := 16) (N := some 26) (v := ?_) (a' := ?_) #[true, true, true, true, true, true, true, true, true, true, true, true, true, true, true, true, true, false, false, false] rfl rfl (any_of HT_.out (by kernel_rfl)) (fun _ _ _ h => h) (Or.inl ⟨by rfl, ?_⟩) ?_ ?_
  rotate_left
  · intro w'
    go_simp
    with_reducible rfl
  rotate_left
  · simp only [Act.put, List.setIfInBounds_toArray, List.set_cons_zero, List.set_cons_succ, i64_w, i32_w]
    rfl
  refine one_ (i := 17) (N := none) #[true, true, true, true, true, true, true, true, true, true, true, true, true, true, true, true, true, true, false, false] rfl rfl (one_of HT_.out (by kernel_rfl)) (by decide) (fun K hK => ?_)
  have hs14 : w11.cell? ⟨gb105, 12, none⟩ = some (.int .u32 a0_12) := (blk_cell BK105.out 12).trans rfl
  have hfs14 := blk_frozen BK105.out 12
  have hns14_0 := NB104_105.out
  have hms14_0 := NB105_104.out
  refine skip_ (w1 := ?_) (by rfl) rfl ?_ ?_
  rotate_left
  · go_simp
    rfl
  refine hK.out _ _ ⟨((cell_far (p := ⟨gb105, _, none⟩) NB104_105.out _).trans (hHeld.1)), ((cell_far (p := ⟨gb105, _, none⟩) NB104_105.out _).trans (hHeld.2.1)), ((cell_far (p := ⟨gb105, _, none⟩) NB104_105.out _).trans (hHeld.2.2.1)), ((cell_far (p := ⟨gb105, _, none⟩) NB104_105.out _).trans (hHeld.2.2.2.1)), ((cell_far (p := ⟨gb105, _, none⟩) NB104_105.out _).trans (hHeld.2.2.2.2.1)), ((cell_far (p := ⟨gb105, _, none⟩) NB104_105.out _).trans (hHeld.2.2.2.2.2.1)), ((cell_far (p := ⟨gb105, _, none⟩) NB104_105.out _).trans (hHeld.2.2.2.2.2.2.1)), ((cell_far (p := ⟨gb105, _, none⟩) NB104_105.out _).trans (hHeld.2.2.2.2.2.2.2.1)), ((cell_far (p := ⟨gb105, _, none⟩) NB104_105.out _).trans (hHeld.2.2.2.2.2.2.2.2.1)), ((cell_far (p := ⟨gb105, _, none⟩) NB104_105.out _).trans (hHeld.2.2.2.2.2.2.2.2.2.1)), ((cell_far (p := ⟨gb105, _, none⟩) NB104_105.out _).trans (hHeld.2.2.2.2.2.2.2.2.2.2.1)), ((cell_far (p := ⟨gb105, _, none⟩) NB104_105.out _).trans (hHeld.2.2.2.2.2.2.2.2.2.2.2.1)), ((cell_far (p := ⟨gb105, _, none⟩) NB104_105.out _).trans (hHeld.2.2.2.2.2.2.2.2.2.2.2.2.1)), ((cell_far (p := ⟨gb105, _, none⟩) NB104_105.out _).trans (hHeld.2.2.2.2.2.2.2.2.2.2.2.2.2.1)), ((cell_far (p := ⟨gb105, _, none⟩) NB104_105.out _).trans (hHeld.2.2.2.2.2.2.2.2.2.2.2.2.2.2.1)), ((cell_far (p := ⟨gb105, _, none⟩) NB104_105.out _).trans (hHeld.2.2.2.2.2.2.2.2.2.2.2.2.2.2.2))⟩ (fun hHeld => ?_)
  clear hK K
  refine pure_ (i := 18) (N := some 27) (v := ?_) (a' := ?_) #[true, true, true, true, true, true, true, true, true, true, true, true, true, true, true, true, true, true, true, false] rfl rfl (any_of HT_.out (by kernel_rfl)) (fun _ _ _ h => h) (Or.inl ⟨by rfl, ?_⟩) ?_ ?_
  rotate_left
  · intro w'
    go_simp
    with_reducible rfl
  rotate_left
  · simp only [Act.put, List.setIfInBounds_toArray, List.set_cons_zero, List.set_cons_succ, i64_w, i32_w]
    rfl
  refine one_ (i := 19) (N := none) #[true, true, true, true, true, true, true, true, true, true, true, true, true, true, true, true, true, true, true, true] rfl rfl (one_of HT_.out (by kernel_rfl)) (by decide) (fun K hK => ?_)
  have hs15 : w11.cell? ⟨gb105, 13, none⟩ = some (.int .u32 a0_13) := (blk_cell BK105.out 13).trans rfl
  have hfs15 := blk_frozen BK105.out 13
  have hns15_0 := NB104_105.out
  have hms15_0 := NB105_104.out
  refine skip_ (w1 := ?_) (by rfl) rfl ?_ ?_
  rotate_left
  · go_simp
    rfl
  refine hK.out _ _ ⟨((cell_far (p := ⟨gb105, _, none⟩) NB104_105.out _).trans (hHeld.1)), ((cell_far (p := ⟨gb105, _, none⟩) NB104_105.out _).trans (hHeld.2.1)), ((cell_far (p := ⟨gb105, _, none⟩) NB104_105.out _).trans (hHeld.2.2.1)), ((cell_far (p := ⟨gb105, _, none⟩) NB104_105.out _).trans (hHeld.2.2.2.1)), ((cell_far (p := ⟨gb105, _, none⟩) NB104_105.out _).trans (hHeld.2.2.2.2.1)), ((cell_far (p := ⟨gb105, _, none⟩) NB104_105.out _).trans (hHeld.2.2.2.2.2.1)), ((cell_far (p := ⟨gb105, _, none⟩) NB104_105.out _).trans (hHeld.2.2.2.2.2.2.1)), ((cell_far (p := ⟨gb105, _, none⟩) NB104_105.out _).trans (hHeld.2.2.2.2.2.2.2.1)), ((cell_far (p := ⟨gb105, _, none⟩) NB104_105.out _).trans (hHeld.2.2.2.2.2.2.2.2.1)), ((cell_far (p := ⟨gb105, _, none⟩) NB104_105.out _).trans (hHeld.2.2.2.2.2.2.2.2.2.1)), ((cell_far (p := ⟨gb105, _, none⟩) NB104_105.out _).trans (hHeld.2.2.2.2.2.2.2.2.2.2.1)), ((cell_far (p := ⟨gb105, _, none⟩) NB104_105.out _).trans (hHeld.2.2.2.2.2.2.2.2.2.2.2.1)), ((cell_far (p := ⟨gb105, _, none⟩) NB104_105.out _).trans (hHeld.2.2.2.2.2.2.2.2.2.2.2.2.1)), ((cell_far (p := ⟨gb105, _, none⟩) NB104_105.out _).trans (hHeld.2.2.2.2.2.2.2.2.2.2.2.2.2.1)), ((cell_far (p := ⟨gb105, _, none⟩) NB104_105.out _).trans (hHeld.2.2.2.2.2.2.2.2.2.2.2.2.2.2.1)), ((cell_far (p := ⟨gb105, _, none⟩) NB104_105.out _).trans (hHeld.2.2.2.2.2.2.2.2.2.2.2.2.2.2.2))⟩ (fun hHeld => ?_)
  clear hK K
  refine done_ (done_of HT_.out (by kernel_rfl)) ?_
  go_upto_region 5 with (fail)
  go_cut [32] (fun v32 wc => ∃ (kq : Nat) (x32_3 : Bool), v32 = .bool x32_3 ∧ Aside0 (crosswaylaw23_ClashOf.j0 kq (Go.bits .and .u32 a1 1) (Go.bits .and .u32 a2 1) 0 x32_3 a0_0 (Go.bits .and .u32 a0_1 1) (Go.bits .and .u32 a0_2 1) a0_3 a0_4 a0_5 a0_6 a0_7 a0_8 a0_9 a0_10 a0_11 (Go.bits .and .u32 a0_12 1) (Go.bits .and .u32 a0_13 1) a0_14 a0_15 = some r) ∧ Aside0 (kq ≤ k) ∧ Aside0 (wc.heap[gb104]? = some (.cells #[.int .i64 a0_0, .int .u32 a0_1, .int .u32 a0_2, .int .u32 a0_3, .int .u32 a0_4, .int .u32 a0_5, .int .u32 a0_6, .int .i64 a0_7, .int .i64 a0_8, .int .u32 a0_9, .int .i64 a0_10, .int .i64 a0_11, .int .u32 a0_12, .int .u32 a0_13, .string a0_14, .string a0_15] 45 (0, 0))) ∧ Aside0 (wc.heap[gb105]? = some (.cells #[.int .i64 a0_0, .int .u32 (Go.bits .and .u32 a0_1 1), .int .u32 (Go.bits .and .u32 a0_2 1), .int .u32 a0_3, .int .u32 a0_4, .int .u32 a0_5, .int .u32 a0_6, .int .i64 a0_7, .int .i64 a0_8, .int .u32 a0_9, .int .i64 a0_10, .int .i64 a0_11, .int .u32 (Go.bits .and .u32 a0_12 1), .int .u32 (Go.bits .and .u32 a0_13 1), .string a0_14, .string a0_15] 45 (0, 0))) ∧ Aside0 (Below w.heap.size w wc))
  case first => as_aux_lemma =>
    have H := HC4.out
    clear HC4
    by_cases c16 : (Go.bits .and .u32 a0_1 1) = (Go.bits .and .u32 a1 1)
    · rw [if_pos c16] at H
      have c16b0 : ((Go.bits .and .u32 a0_1 1) == (Go.bits .and .u32 a1 1)) = true := beq_iff_eq.mpr c16
      have c16b1 : ((Go.bits .and .u32 a0_1 1) != (Go.bits .and .u32 a1 1)) = false := bne_eq_false_iff_eq.mpr c16
      clear c16
      (first | rw [c16b0] | (simp only [i64_w, i32_w]; rw [c16b0]) | skip)
      by_cases c17 : (Go.bits .and .u32 a2 1) = 0
      · rw [if_pos c17] at H
        have c17b0 : ((Go.bits .and .u32 a2 1) == 0) = true := beq_iff_eq.mpr c17
        have c17b1 : ((Go.bits .and .u32 a2 1) != 0) = false := bne_eq_false_iff_eq.mpr c17
        clear c17
        have H' := Aside0.mk H
        clear H
        have hnb18 := NB105_104.out
        have hnc18 := NB104_105.out
        have hcz19_0 : w11.cell? ⟨gb105, 0, none⟩ = some (.int .i64 a0_0) := (blk_cell BK105.out 0).trans rfl
        have hcz19_1 : w11.cell? ⟨gb105, 1, none⟩ = some (.int .u32 a0_1) := (blk_cell BK105.out 1).trans rfl
        have hcz19_2 : w11.cell? ⟨gb105, 2, none⟩ = some (.int .u32 a0_2) := (blk_cell BK105.out 2).trans rfl
        have hcz19_3 : w11.cell? ⟨gb105, 3, none⟩ = some (.int .u32 a0_3) := (blk_cell BK105.out 3).trans rfl
        have hcz19_4 : w11.cell? ⟨gb105, 4, none⟩ = some (.int .u32 a0_4) := (blk_cell BK105.out 4).trans rfl
        have hcz19_5 : w11.cell? ⟨gb105, 5, none⟩ = some (.int .u32 a0_5) := (blk_cell BK105.out 5).trans rfl
        have hcz19_6 : w11.cell? ⟨gb105, 6, none⟩ = some (.int .u32 a0_6) := (blk_cell BK105.out 6).trans rfl
        have hcz19_7 : w11.cell? ⟨gb105, 7, none⟩ = some (.int .i64 a0_7) := (blk_cell BK105.out 7).trans rfl
        have hcz19_8 : w11.cell? ⟨gb105, 8, none⟩ = some (.int .i64 a0_8) := (blk_cell BK105.out 8).trans rfl
        have hcz19_9 : w11.cell? ⟨gb105, 9, none⟩ = some (.int .u32 a0_9) := (blk_cell BK105.out 9).trans rfl
        have hcz19_10 : w11.cell? ⟨gb105, 10, none⟩ = some (.int .i64 a0_10) := (blk_cell BK105.out 10).trans rfl
        have hcz19_11 : w11.cell? ⟨gb105, 11, none⟩ = some (.int .i64 a0_11) := (blk_cell BK105.out 11).trans rfl
        have hcz19_12 : w11.cell? ⟨gb105, 12, none⟩ = some (.int .u32 a0_12) := (blk_cell BK105.out 12).trans rfl
        have hcz19_13 : w11.cell? ⟨gb105, 13, none⟩ = some (.int .u32 a0_13) := (blk_cell BK105.out 13).trans rfl
        have hcz19_14 : w11.cell? ⟨gb105, 14, none⟩ = some (.string a0_14) := (blk_cell BK105.out 14).trans rfl
        have hcz19_15 : w11.cell? ⟨gb105, 15, none⟩ = some (.string a0_15) := (blk_cell BK105.out 15).trans rfl
        have hfz19_0 := blk_frozen BK105.out 0
        have hfz19_1 := blk_frozen BK105.out 1
        have hfz19_2 := blk_frozen BK105.out 2
        have hfz19_3 := blk_frozen BK105.out 3
        have hfz19_4 := blk_frozen BK105.out 4
        have hfz19_5 := blk_frozen BK105.out 5
        have hfz19_6 := blk_frozen BK105.out 6
        have hfz19_7 := blk_frozen BK105.out 7
        have hfz19_8 := blk_frozen BK105.out 8
        have hfz19_9 := blk_frozen BK105.out 9
        have hfz19_10 := blk_frozen BK105.out 10
        have hfz19_11 := blk_frozen BK105.out 11
        have hfz19_12 := blk_frozen BK105.out 12
        have hfz19_13 := blk_frozen BK105.out 13
        have hfz19_14 := blk_frozen BK105.out 14
        have hfz19_15 := blk_frozen BK105.out 15
        go_wp2
        go_meet
        case rel => exact ⟨_, (false), (by first | rfl | (simp; done) | (simp [*]; done)), H', ⟨by first | omega | exact Nat.le_refl _⟩, ⟨by (with_reducible repeat (first | refine blk_drewN ?_ _ | refine blk_drew ?_ | refine blk_alloc ?_ _)); refine blk_far ?_ NB104_105.out _; (with_reducible repeat (first | refine blk_drewN ?_ _ | refine blk_drew ?_ | refine blk_alloc ?_ _)); refine blk_far ?_ NB104_105.out _; (with_reducible repeat (first | refine blk_drewN ?_ _ | refine blk_drew ?_ | refine blk_alloc ?_ _)); refine blk_far ?_ NB104_105.out _; (with_reducible repeat (first | refine blk_drewN ?_ _ | refine blk_drew ?_ | refine blk_alloc ?_ _)); refine blk_far ?_ NB104_105.out _; (with_reducible repeat (first | refine blk_drewN ?_ _ | refine blk_drew ?_ | refine blk_alloc ?_ _)); exact BK104.out⟩, ⟨by (with_reducible repeat (first | refine blk_drewN ?_ _ | refine blk_drew ?_ | refine blk_alloc ?_ _)); refine blk_put (cs := #[.int .i64 a0_0, .int .u32 (Go.bits .and .u32 a0_1 1), .int .u32 (Go.bits .and .u32 a0_2 1), .int .u32 a0_3, .int .u32 a0_4, .int .u32 a0_5, .int .u32 a0_6, .int .i64 a0_7, .int .i64 a0_8, .int .u32 a0_9, .int .i64 a0_10, .int .i64 a0_11, .int .u32 (Go.bits .and .u32 a0_12 1), .int .u32 a0_13, .string a0_14, .string a0_15]) ?_ 13 _ rfl; (with_reducible repeat (first | refine blk_drewN ?_ _ | refine blk_drew ?_ | refine blk_alloc ?_ _)); refine blk_put (cs := #[.int .i64 a0_0, .int .u32 (Go.bits .and .u32 a0_1 1), .int .u32 (Go.bits .and .u32 a0_2 1), .int .u32 a0_3, .int .u32 a0_4, .int .u32 a0_5, .int .u32 a0_6, .int .i64 a0_7, .int .i64 a0_8, .int .u32 a0_9, .int .i64 a0_10, .int .i64 a0_11, .int .u32 a0_12, .int .u32 a0_13, .string a0_14, .string a0_15]) ?_ 12 _ rfl; (with_reducible repeat (first | refine blk_drewN ?_ _ | refine blk_drew ?_ | refine blk_alloc ?_ _)); refine blk_put (cs := #[.int .i64 a0_0, .int .u32 (Go.bits .and .u32 a0_1 1), .int .u32 a0_2, .int .u32 a0_3, .int .u32 a0_4, .int .u32 a0_5, .int .u32 a0_6, .int .i64 a0_7, .int .i64 a0_8, .int .u32 a0_9, .int .i64 a0_10, .int .i64 a0_11, .int .u32 a0_12, .int .u32 a0_13, .string a0_14, .string a0_15]) ?_ 2 _ rfl; (with_reducible repeat (first | refine blk_drewN ?_ _ | refine blk_drew ?_ | refine blk_alloc ?_ _)); refine blk_put (cs := #[.int .i64 a0_0, .int .u32 a0_1, .int .u32 a0_2, .int .u32 a0_3, .int .u32 a0_4, .int .u32 a0_5, .int .u32 a0_6, .int .i64 a0_7, .int .i64 a0_8, .int .u32 a0_9, .int .i64 a0_10, .int .i64 a0_11, .int .u32 a0_12, .int .u32 a0_13, .string a0_14, .string a0_15]) ?_ 1 _ rfl; (with_reducible repeat (first | refine blk_drewN ?_ _ | refine blk_drew ?_ | refine blk_alloc ?_ _)); exact BK105.out⟩, ⟨by repeat (first | (with_reducible first | exact HB.out | apply below_alloc | apply pw_below_drewN | apply below_drew1 | refine below_set ?_ GE104.out | refine below_set ?_ GE105.out) | exact HB.out)⟩⟩
      · rw [if_neg c17] at H
        have c17b0 : ((Go.bits .and .u32 a2 1) == 0) = false := beq_eq_false_iff_ne.mpr c17
        have c17b1 : ((Go.bits .and .u32 a2 1) != 0) = true := bne_iff_ne.mpr c17
        have H' := Aside0.mk H
        clear H
        have hnb20 := NB105_104.out
        have hnc20 := NB104_105.out
        have hcz21_0 : w11.cell? ⟨gb105, 0, none⟩ = some (.int .i64 a0_0) := (blk_cell BK105.out 0).trans rfl
        have hcz21_1 : w11.cell? ⟨gb105, 1, none⟩ = some (.int .u32 a0_1) := (blk_cell BK105.out 1).trans rfl
        have hcz21_2 : w11.cell? ⟨gb105, 2, none⟩ = some (.int .u32 a0_2) := (blk_cell BK105.out 2).trans rfl
        have hcz21_3 : w11.cell? ⟨gb105, 3, none⟩ = some (.int .u32 a0_3) := (blk_cell BK105.out 3).trans rfl
        have hcz21_4 : w11.cell? ⟨gb105, 4, none⟩ = some (.int .u32 a0_4) := (blk_cell BK105.out 4).trans rfl
        have hcz21_5 : w11.cell? ⟨gb105, 5, none⟩ = some (.int .u32 a0_5) := (blk_cell BK105.out 5).trans rfl
        have hcz21_6 : w11.cell? ⟨gb105, 6, none⟩ = some (.int .u32 a0_6) := (blk_cell BK105.out 6).trans rfl
        have hcz21_7 : w11.cell? ⟨gb105, 7, none⟩ = some (.int .i64 a0_7) := (blk_cell BK105.out 7).trans rfl
        have hcz21_8 : w11.cell? ⟨gb105, 8, none⟩ = some (.int .i64 a0_8) := (blk_cell BK105.out 8).trans rfl
        have hcz21_9 : w11.cell? ⟨gb105, 9, none⟩ = some (.int .u32 a0_9) := (blk_cell BK105.out 9).trans rfl
        have hcz21_10 : w11.cell? ⟨gb105, 10, none⟩ = some (.int .i64 a0_10) := (blk_cell BK105.out 10).trans rfl
        have hcz21_11 : w11.cell? ⟨gb105, 11, none⟩ = some (.int .i64 a0_11) := (blk_cell BK105.out 11).trans rfl
        have hcz21_12 : w11.cell? ⟨gb105, 12, none⟩ = some (.int .u32 a0_12) := (blk_cell BK105.out 12).trans rfl
        have hcz21_13 : w11.cell? ⟨gb105, 13, none⟩ = some (.int .u32 a0_13) := (blk_cell BK105.out 13).trans rfl
        have hcz21_14 : w11.cell? ⟨gb105, 14, none⟩ = some (.string a0_14) := (blk_cell BK105.out 14).trans rfl
        have hcz21_15 : w11.cell? ⟨gb105, 15, none⟩ = some (.string a0_15) := (blk_cell BK105.out 15).trans rfl
        have hfz21_0 := blk_frozen BK105.out 0
        have hfz21_1 := blk_frozen BK105.out 1
        have hfz21_2 := blk_frozen BK105.out 2
        have hfz21_3 := blk_frozen BK105.out 3
        have hfz21_4 := blk_frozen BK105.out 4
        have hfz21_5 := blk_frozen BK105.out 5
        have hfz21_6 := blk_frozen BK105.out 6
        have hfz21_7 := blk_frozen BK105.out 7
        have hfz21_8 := blk_frozen BK105.out 8
        have hfz21_9 := blk_frozen BK105.out 9
        have hfz21_10 := blk_frozen BK105.out 10
        have hfz21_11 := blk_frozen BK105.out 11
        have hfz21_12 := blk_frozen BK105.out 12
        have hfz21_13 := blk_frozen BK105.out 13
        have hfz21_14 := blk_frozen BK105.out 14
        have hfz21_15 := blk_frozen BK105.out 15
        go_wp2
        go_meet
        case rel => exact ⟨_, (((Go.bits .and .u32 a0_2 1) == (Go.bits .and .u32 a2 1))), (by first | rfl | (simp; done) | (simp [*]; done)), H', ⟨by first | omega | exact Nat.le_refl _⟩, ⟨by (with_reducible repeat (first | refine blk_drewN ?_ _ | refine blk_drew ?_ | refine blk_alloc ?_ _)); refine blk_far ?_ NB104_105.out _; (with_reducible repeat (first | refine blk_drewN ?_ _ | refine blk_drew ?_ | refine blk_alloc ?_ _)); refine blk_far ?_ NB104_105.out _; (with_reducible repeat (first | refine blk_drewN ?_ _ | refine blk_drew ?_ | refine blk_alloc ?_ _)); refine blk_far ?_ NB104_105.out _; (with_reducible repeat (first | refine blk_drewN ?_ _ | refine blk_drew ?_ | refine blk_alloc ?_ _)); refine blk_far ?_ NB104_105.out _; (with_reducible repeat (first | refine blk_drewN ?_ _ | refine blk_drew ?_ | refine blk_alloc ?_ _)); exact BK104.out⟩, ⟨by (with_reducible repeat (first | refine blk_drewN ?_ _ | refine blk_drew ?_ | refine blk_alloc ?_ _)); refine blk_put (cs := #[.int .i64 a0_0, .int .u32 (Go.bits .and .u32 a0_1 1), .int .u32 (Go.bits .and .u32 a0_2 1), .int .u32 a0_3, .int .u32 a0_4, .int .u32 a0_5, .int .u32 a0_6, .int .i64 a0_7, .int .i64 a0_8, .int .u32 a0_9, .int .i64 a0_10, .int .i64 a0_11, .int .u32 (Go.bits .and .u32 a0_12 1), .int .u32 a0_13, .string a0_14, .string a0_15]) ?_ 13 _ rfl; (with_reducible repeat (first | refine blk_drewN ?_ _ | refine blk_drew ?_ | refine blk_alloc ?_ _)); refine blk_put (cs := #[.int .i64 a0_0, .int .u32 (Go.bits .and .u32 a0_1 1), .int .u32 (Go.bits .and .u32 a0_2 1), .int .u32 a0_3, .int .u32 a0_4, .int .u32 a0_5, .int .u32 a0_6, .int .i64 a0_7, .int .i64 a0_8, .int .u32 a0_9, .int .i64 a0_10, .int .i64 a0_11, .int .u32 a0_12, .int .u32 a0_13, .string a0_14, .string a0_15]) ?_ 12 _ rfl; (with_reducible repeat (first | refine blk_drewN ?_ _ | refine blk_drew ?_ | refine blk_alloc ?_ _)); refine blk_put (cs := #[.int .i64 a0_0, .int .u32 (Go.bits .and .u32 a0_1 1), .int .u32 a0_2, .int .u32 a0_3, .int .u32 a0_4, .int .u32 a0_5, .int .u32 a0_6, .int .i64 a0_7, .int .i64 a0_8, .int .u32 a0_9, .int .i64 a0_10, .int .i64 a0_11, .int .u32 a0_12, .int .u32 a0_13, .string a0_14, .string a0_15]) ?_ 2 _ rfl; (with_reducible repeat (first | refine blk_drewN ?_ _ | refine blk_drew ?_ | refine blk_alloc ?_ _)); refine blk_put (cs := #[.int .i64 a0_0, .int .u32 a0_1, .int .u32 a0_2, .int .u32 a0_3, .int .u32 a0_4, .int .u32 a0_5, .int .u32 a0_6, .int .i64 a0_7, .int .i64 a0_8, .int .u32 a0_9, .int .i64 a0_10, .int .i64 a0_11, .int .u32 a0_12, .int .u32 a0_13, .string a0_14, .string a0_15]) ?_ 1 _ rfl; (with_reducible repeat (first | refine blk_drewN ?_ _ | refine blk_drew ?_ | refine blk_alloc ?_ _)); exact BK105.out⟩, ⟨by repeat (first | (with_reducible first | exact HB.out | apply below_alloc | apply pw_below_drewN | apply below_drew1 | refine below_set ?_ GE104.out | refine below_set ?_ GE105.out) | exact HB.out)⟩⟩
    · rw [if_neg c16] at H
      have c16b0 : ((Go.bits .and .u32 a0_1 1) == (Go.bits .and .u32 a1 1)) = false := beq_eq_false_iff_ne.mpr c16
      have c16b1 : ((Go.bits .and .u32 a0_1 1) != (Go.bits .and .u32 a1 1)) = true := bne_iff_ne.mpr c16
      (first | rw [c16b0] | (simp only [i64_w, i32_w]; rw [c16b0]) | skip)
      have H' := Aside0.mk H
      clear H
      have hnb22 := NB105_104.out
      have hnc22 := NB104_105.out
      have hcz23_0 : w11.cell? ⟨gb105, 0, none⟩ = some (.int .i64 a0_0) := (blk_cell BK105.out 0).trans rfl
      have hcz23_1 : w11.cell? ⟨gb105, 1, none⟩ = some (.int .u32 a0_1) := (blk_cell BK105.out 1).trans rfl
      have hcz23_2 : w11.cell? ⟨gb105, 2, none⟩ = some (.int .u32 a0_2) := (blk_cell BK105.out 2).trans rfl
      have hcz23_3 : w11.cell? ⟨gb105, 3, none⟩ = some (.int .u32 a0_3) := (blk_cell BK105.out 3).trans rfl
      have hcz23_4 : w11.cell? ⟨gb105, 4, none⟩ = some (.int .u32 a0_4) := (blk_cell BK105.out 4).trans rfl
      have hcz23_5 : w11.cell? ⟨gb105, 5, none⟩ = some (.int .u32 a0_5) := (blk_cell BK105.out 5).trans rfl
      have hcz23_6 : w11.cell? ⟨gb105, 6, none⟩ = some (.int .u32 a0_6) := (blk_cell BK105.out 6).trans rfl
      have hcz23_7 : w11.cell? ⟨gb105, 7, none⟩ = some (.int .i64 a0_7) := (blk_cell BK105.out 7).trans rfl
      have hcz23_8 : w11.cell? ⟨gb105, 8, none⟩ = some (.int .i64 a0_8) := (blk_cell BK105.out 8).trans rfl
      have hcz23_9 : w11.cell? ⟨gb105, 9, none⟩ = some (.int .u32 a0_9) := (blk_cell BK105.out 9).trans rfl
      have hcz23_10 : w11.cell? ⟨gb105, 10, none⟩ = some (.int .i64 a0_10) := (blk_cell BK105.out 10).trans rfl
      have hcz23_11 : w11.cell? ⟨gb105, 11, none⟩ = some (.int .i64 a0_11) := (blk_cell BK105.out 11).trans rfl
      have hcz23_12 : w11.cell? ⟨gb105, 12, none⟩ = some (.int .u32 a0_12) := (blk_cell BK105.out 12).trans rfl
      have hcz23_13 : w11.cell? ⟨gb105, 13, none⟩ = some (.int .u32 a0_13) := (blk_cell BK105.out 13).trans rfl
      have hcz23_14 : w11.cell? ⟨gb105, 14, none⟩ = some (.string a0_14) := (blk_cell BK105.out 14).trans rfl
      have hcz23_15 : w11.cell? ⟨gb105, 15, none⟩ = some (.string a0_15) := (blk_cell BK105.out 15).trans rfl
      have hfz23_0 := blk_frozen BK105.out 0
      have hfz23_1 := blk_frozen BK105.out 1
      have hfz23_2 := blk_frozen BK105.out 2
      have hfz23_3 := blk_frozen BK105.out 3
      have hfz23_4 := blk_frozen BK105.out 4
      have hfz23_5 := blk_frozen BK105.out 5
      have hfz23_6 := blk_frozen BK105.out 6
      have hfz23_7 := blk_frozen BK105.out 7
      have hfz23_8 := blk_frozen BK105.out 8
      have hfz23_9 := blk_frozen BK105.out 9
      have hfz23_10 := blk_frozen BK105.out 10
      have hfz23_11 := blk_frozen BK105.out 11
      have hfz23_12 := blk_frozen BK105.out 12
      have hfz23_13 := blk_frozen BK105.out 13
      have hfz23_14 := blk_frozen BK105.out 14
      have hfz23_15 := blk_frozen BK105.out 15
      go_wp2
      go_meet
      case rel => exact ⟨_, (false), (by first | rfl | (simp; done) | (simp [*]; done)), H', ⟨by first | omega | exact Nat.le_refl _⟩, ⟨by (with_reducible repeat (first | refine blk_drewN ?_ _ | refine blk_drew ?_ | refine blk_alloc ?_ _)); refine blk_far ?_ NB104_105.out _; (with_reducible repeat (first | refine blk_drewN ?_ _ | refine blk_drew ?_ | refine blk_alloc ?_ _)); refine blk_far ?_ NB104_105.out _; (with_reducible repeat (first | refine blk_drewN ?_ _ | refine blk_drew ?_ | refine blk_alloc ?_ _)); refine blk_far ?_ NB104_105.out _; (with_reducible repeat (first | refine blk_drewN ?_ _ | refine blk_drew ?_ | refine blk_alloc ?_ _)); refine blk_far ?_ NB104_105.out _; (with_reducible repeat (first | refine blk_drewN ?_ _ | refine blk_drew ?_ | refine blk_alloc ?_ _)); exact BK104.out⟩, ⟨by (with_reducible repeat (first | refine blk_drewN ?_ _ | refine blk_drew ?_ | refine blk_alloc ?_ _)); refine blk_put (cs := #[.int .i64 a0_0, .int .u32 (Go.bits .and .u32 a0_1 1), .int .u32 (Go.bits .and .u32 a0_2 1), .int .u32 a0_3, .int .u32 a0_4, .int .u32 a0_5, .int .u32 a0_6, .int .i64 a0_7, .int .i64 a0_8, .int .u32 a0_9, .int .i64 a0_10, .int .i64 a0_11, .int .u32 (Go.bits .and .u32 a0_12 1), .int .u32 a0_13, .string a0_14, .string a0_15]) ?_ 13 _ rfl; (with_reducible repeat (first | refine blk_drewN ?_ _ | refine blk_drew ?_ | refine blk_alloc ?_ _)); refine blk_put (cs := #[.int .i64 a0_0, .int .u32 (Go.bits .and .u32 a0_1 1), .int .u32 (Go.bits .and .u32 a0_2 1), .int .u32 a0_3, .int .u32 a0_4, .int .u32 a0_5, .int .u32 a0_6, .int .i64 a0_7, .int .i64 a0_8, .int .u32 a0_9, .int .i64 a0_10, .int .i64 a0_11, .int .u32 a0_12, .int .u32 a0_13, .string a0_14, .string a0_15]) ?_ 12 _ rfl; (with_reducible repeat (first | refine blk_drewN ?_ _ | refine blk_drew ?_ | refine blk_alloc ?_ _)); refine blk_put (cs := #[.int .i64 a0_0, .int .u32 (Go.bits .and .u32 a0_1 1), .int .u32 a0_2, .int .u32 a0_3, .int .u32 a0_4, .int .u32 a0_5, .int .u32 a0_6, .int .i64 a0_7, .int .i64 a0_8, .int .u32 a0_9, .int .i64 a0_10, .int .i64 a0_11, .int .u32 a0_12, .int .u32 a0_13, .string a0_14, .string a0_15]) ?_ 2 _ rfl; (with_reducible repeat (first | refine blk_drewN ?_ _ | refine blk_drew ?_ | refine blk_alloc ?_ _)); refine blk_put (cs := #[.int .i64 a0_0, .int .u32 a0_1, .int .u32 a0_2, .int .u32 a0_3, .int .u32 a0_4, .int .u32 a0_5, .int .u32 a0_6, .int .i64 a0_7, .int .i64 a0_8, .int .u32 a0_9, .int .i64 a0_10, .int .i64 a0_11, .int .u32 a0_12, .int .u32 a0_13, .string a0_14, .string a0_15]) ?_ 1 _ rfl; (with_reducible repeat (first | refine blk_drewN ?_ _ | refine blk_drew ?_ | refine blk_alloc ?_ _)); exact BK105.out⟩, ⟨by repeat (first | (with_reducible first | exact HB.out | apply below_alloc | apply pw_below_drewN | apply below_drew1 | refine below_set ?_ GE104.out | refine below_set ?_ GE105.out) | exact HB.out)⟩⟩
  case rest => as_aux_lemma =>
    clear HC4
    try clear c1
    try clear c2
    try clear p2
    try clear c8
    try clear c10
    try clear c16
    try clear c16b0
    try clear c16b1
    try clear c17
    try clear c17b0
    try clear c17b1
    try clear c18
    try clear c20
    try clear c22
    try clear hcz19_0
    try clear hcz19_1
    try clear hcz19_10
    try clear hcz19_11
    try clear hcz19_12
    try clear hcz19_13
    try clear hcz19_14
    try clear hcz19_15
    try clear hcz19_2
    try clear hcz19_3
    try clear hcz19_4
    try clear hcz19_5
    try clear hcz19_6
    try clear hcz19_7
    try clear hcz19_8
    try clear hcz19_9
    try clear hcz21_0
    try clear hcz21_1
    try clear hcz21_10
    try clear hcz21_11
    try clear hcz21_12
    try clear hcz21_13
    try clear hcz21_14
    try clear hcz21_15
    try clear hcz21_2
    try clear hcz21_3
    try clear hcz21_4
    try clear hcz21_5
    try clear hcz21_6
    try clear hcz21_7
    try clear hcz21_8
    try clear hcz21_9
    try clear hcz23_0
    try clear hcz23_1
    try clear hcz23_10
    try clear hcz23_11
    try clear hcz23_12
    try clear hcz23_13
    try clear hcz23_14
    try clear hcz23_15
    try clear hcz23_2
    try clear hcz23_3
    try clear hcz23_4
    try clear hcz23_5
    try clear hcz23_6
    try clear hcz23_7
    try clear hcz23_8
    try clear hcz23_9
    try clear hcz6_0
    try clear hcz6_1
    try clear hcz6_10
    try clear hcz6_11
    try clear hcz6_12
    try clear hcz6_13
    try clear hcz6_14
    try clear hcz6_15
    try clear hcz6_2
    try clear hcz6_3
    try clear hcz6_4
    try clear hcz6_5
    try clear hcz6_6
    try clear hcz6_7
    try clear hcz6_8
    try clear hcz6_9
    try clear hcz9_0
    try clear hcz9_1
    try clear hcz9_10
    try clear hcz9_11
    try clear hcz9_12
    try clear hcz9_13
    try clear hcz9_14
    try clear hcz9_15
    try clear hcz9_2
    try clear hcz9_3
    try clear hcz9_4
    try clear hcz9_5
    try clear hcz9_6
    try clear hcz9_7
    try clear hcz9_8
    try clear hcz9_9
    try clear hfz19_0
    try clear hfz19_1
    try clear hfz19_10
    try clear hfz19_11
    try clear hfz19_12
    try clear hfz19_13
    try clear hfz19_14
    try clear hfz19_15
    try clear hfz19_2
    try clear hfz19_3
    try clear hfz19_4
    try clear hfz19_5
    try clear hfz19_6
    try clear hfz19_7
    try clear hfz19_8
    try clear hfz19_9
    try clear hfz21_0
    try clear hfz21_1
    try clear hfz21_10
    try clear hfz21_11
    try clear hfz21_12
    try clear hfz21_13
    try clear hfz21_14
    try clear hfz21_15
    try clear hfz21_2
    try clear hfz21_3
    try clear hfz21_4
    try clear hfz21_5
    try clear hfz21_6
    try clear hfz21_7
    try clear hfz21_8
    try clear hfz21_9
    try clear hfz23_0
    try clear hfz23_1
    try clear hfz23_10
    try clear hfz23_11
    try clear hfz23_12
    try clear hfz23_13
    try clear hfz23_14
    try clear hfz23_15
    try clear hfz23_2
    try clear hfz23_3
    try clear hfz23_4
    try clear hfz23_5
    try clear hfz23_6
    try clear hfz23_7
    try clear hfz23_8
    try clear hfz23_9
    try clear hfz6_0
    try clear hfz6_1
    try clear hfz6_10
    try clear hfz6_11
    try clear hfz6_12
    try clear hfz6_13
    try clear hfz6_14
    try clear hfz6_15
    try clear hfz6_2
    try clear hfz6_3
    try clear hfz6_4
    try clear hfz6_5
    try clear hfz6_6
    try clear hfz6_7
    try clear hfz6_8
    try clear hfz6_9
    try clear hfz9_0
    try clear hfz9_1
    try clear hfz9_10
    try clear hfz9_11
    try clear hfz9_12
    try clear hfz9_13
    try clear hfz9_14
    try clear hfz9_15
    try clear hfz9_2
    try clear hfz9_3
    try clear hfz9_4
    try clear hfz9_5
    try clear hfz9_6
    try clear hfz9_7
    try clear hfz9_8
    try clear hfz9_9
    obtain ⟨kq, x32_3, rfl, HA, HJ3, BK104, BK105, HB⟩ := hcut
    cases kq with
    | zero => exact absurd HA.out (by simp [crosswaylaw23_ClashOf.j0])
    | succ kj3 =>
      have H := HA.out
      clear HA
      simp only [crosswaylaw23_ClashOf.j0] at H
      by_cases c24 : x32_3 = true
      · subst c24
        have H1 : ((crosswaylaw23_awake.f kj3).bind fun t106 => (if t106 = true then ((clash_Of.f kj3 a0_0 (Go.bits .and .u32 a0_1 1) (Go.bits .and .u32 a0_2 1) a0_3 a0_4 a0_5 a0_6 a0_7 a0_8 a0_9 a0_10 a0_11 (Go.bits .and .u32 a0_12 1) (Go.bits .and .u32 a0_13 1) a0_14 a0_15 (Go.bits .and .u32 a1 1) (Go.bits .and .u32 a2 1)).bind fun t107 => (some (t107 == 4))) else (some false))) = some r := by rw [if_pos rfl] at H; exact H
        clear H
        have H := H1
        clear H1
        replace H := Option.bind_eq_some_iff.mp H
        obtain ⟨t106, A250, H⟩ := H
        replace H : (if t106 = true then ((clash_Of.f kj3 a0_0 (Go.bits .and .u32 a0_1 1) (Go.bits .and .u32 a0_2 1) a0_3 a0_4 a0_5 a0_6 a0_7 a0_8 a0_9 a0_10 a0_11 (Go.bits .and .u32 a0_12 1) (Go.bits .and .u32 a0_13 1) a0_14 a0_15 (Go.bits .and .u32 a1 1) (Go.bits .and .u32 a2 1)).bind fun t107 => (some (t107 == 4))) else (some false)) = some r := H
        have A25 := Aside0.mk A250
        clear A250
        by_cases c26 : t106 = true
        · subst c26
          have H1 : ((clash_Of.f kj3 a0_0 (Go.bits .and .u32 a0_1 1) (Go.bits .and .u32 a0_2 1) a0_3 a0_4 a0_5 a0_6 a0_7 a0_8 a0_9 a0_10 a0_11 (Go.bits .and .u32 a0_12 1) (Go.bits .and .u32 a0_13 1) a0_14 a0_15 (Go.bits .and .u32 a1 1) (Go.bits .and .u32 a2 1)).bind fun t107 => (some (t107 == 4))) = some r := by rw [if_pos rfl] at H; exact H
          clear H
          have H := H1
          clear H1
          replace H := Option.bind_eq_some_iff.mp H
          obtain ⟨t107, A270, H⟩ := H
          replace H : (some (t107 == 4)) = some r := H
          have A27 := Aside0.mk A270
          clear A270
          obtain rfl := Option.some.inj H
          go_wp2_with (first | ((with_reducible refine gate_callee (f := 29) rfl ?_); refine goesL_ (some 85) rfl rfl Try.func29 (by kernel_rfl) rfl #[] rfl (by (try simp only [List.map_toArray, List.map_cons, List.map_nil]); first | done | rfl | (simp only [List.length_drop, List.length_take]; rfl)) ?_; (with_reducible refine (crosswaylaw23_awake.calls kj3  true _ A25.out).mono ?_); rintro e w28 ⟨rfl, hb⟩; refine ⟨_, rfl, ?_⟩; have n0_ := Aside0.mk (blk_below (g := gb104) (o := .cells #[.int .i64 a0_0, .int .u32 a0_1, .int .u32 a0_2, .int .u32 a0_3, .int .u32 a0_4, .int .u32 a0_5, .int .u32 a0_6, .int .i64 a0_7, .int .i64 a0_8, .int .u32 a0_9, .int .i64 a0_10, .int .i64 a0_11, .int .u32 a0_12, .int .u32 a0_13, .string a0_14, .string a0_15] 45 (0, 0)) (by (with_reducible repeat (first | refine blk_drewN ?_ _ | refine blk_drew ?_ | refine blk_alloc ?_ _)); exact BK104.out) hb); have n1_ := Aside0.mk (blk_below (g := gb105) (o := .cells #[.int .i64 a0_0, .int .u32 (Go.bits .and .u32 a0_1 1), .int .u32 (Go.bits .and .u32 a0_2 1), .int .u32 a0_3, .int .u32 a0_4, .int .u32 a0_5, .int .u32 a0_6, .int .i64 a0_7, .int .i64 a0_8, .int .u32 a0_9, .int .i64 a0_10, .int .i64 a0_11, .int .u32 (Go.bits .and .u32 a0_12 1), .int .u32 (Go.bits .and .u32 a0_13 1), .string a0_14, .string a0_15] 45 (0, 0)) (by (with_reducible repeat (first | refine blk_drewN ?_ _ | refine blk_drew ?_ | refine blk_alloc ?_ _)); exact BK105.out) hb); have n2_ := Aside0.mk (below_step (by repeat (first | (with_reducible first | exact HB.out | apply below_alloc | apply pw_below_drewN | apply below_drew1 | refine below_set ?_ GE104.out | refine below_set ?_ GE105.out) | exact HB.out)) hb); clear BK104; clear BK105; clear HB; have BK104 := n0_; have BK105 := n1_; have HB := n2_; clear n0_ n1_ n2_; (try clear hb); (try clear hb2); (try clear hk); (try clear hi); have hnb29 := NB105_104.out; have hnc29 := NB104_105.out; have hcz30_0 : w28.cell? ⟨gb105, 0, none⟩ = some (.int .i64 a0_0) := (blk_cell BK105.out 0).trans rfl; have hcz30_1 : w28.cell? ⟨gb105, 1, none⟩ = some (.int .u32 (Go.bits .and .u32 a0_1 1)) := (blk_cell BK105.out 1).trans rfl; have hcz30_2 : w28.cell? ⟨gb105, 2, none⟩ = some (.int .u32 (Go.bits .and .u32 a0_2 1)) := (blk_cell BK105.out 2).trans rfl; have hcz30_3 : w28.cell? ⟨gb105, 3, none⟩ = some (.int .u32 a0_3) := (blk_cell BK105.out 3).trans rfl; have hcz30_4 : w28.cell? ⟨gb105, 4, none⟩ = some (.int .u32 a0_4) := (blk_cell BK105.out 4).trans rfl; have hcz30_5 : w28.cell? ⟨gb105, 5, none⟩ = some (.int .u32 a0_5) := (blk_cell BK105.out 5).trans rfl; have hcz30_6 : w28.cell? ⟨gb105, 6, none⟩ = some (.int .u32 a0_6) := (blk_cell BK105.out 6).trans rfl; have hcz30_7 : w28.cell? ⟨gb105, 7, none⟩ = some (.int .i64 a0_7) := (blk_cell BK105.out 7).trans rfl; have hcz30_8 : w28.cell? ⟨gb105, 8, none⟩ = some (.int .i64 a0_8) := (blk_cell BK105.out 8).trans rfl; have hcz30_9 : w28.cell? ⟨gb105, 9, none⟩ = some (.int .u32 a0_9) := (blk_cell BK105.out 9).trans rfl; have hcz30_10 : w28.cell? ⟨gb105, 10, none⟩ = some (.int .i64 a0_10) := (blk_cell BK105.out 10).trans rfl; have hcz30_11 : w28.cell? ⟨gb105, 11, none⟩ = some (.int .i64 a0_11) := (blk_cell BK105.out 11).trans rfl; have hcz30_12 : w28.cell? ⟨gb105, 12, none⟩ = some (.int .u32 (Go.bits .and .u32 a0_12 1)) := (blk_cell BK105.out 12).trans rfl; have hcz30_13 : w28.cell? ⟨gb105, 13, none⟩ = some (.int .u32 (Go.bits .and .u32 a0_13 1)) := (blk_cell BK105.out 13).trans rfl; have hcz30_14 : w28.cell? ⟨gb105, 14, none⟩ = some (.string a0_14) := (blk_cell BK105.out 14).trans rfl; have hcz30_15 : w28.cell? ⟨gb105, 15, none⟩ = some (.string a0_15) := (blk_cell BK105.out 15).trans rfl; have hfz30_0 := blk_frozen BK105.out 0; have hfz30_1 := blk_frozen BK105.out 1; have hfz30_2 := blk_frozen BK105.out 2; have hfz30_3 := blk_frozen BK105.out 3; have hfz30_4 := blk_frozen BK105.out 4; have hfz30_5 := blk_frozen BK105.out 5; have hfz30_6 := blk_frozen BK105.out 6; have hfz30_7 := blk_frozen BK105.out 7; have hfz30_8 := blk_frozen BK105.out 8; have hfz30_9 := blk_frozen BK105.out 9; have hfz30_10 := blk_frozen BK105.out 10; have hfz30_11 := blk_frozen BK105.out 11; have hfz30_12 := blk_frozen BK105.out 12; have hfz30_13 := blk_frozen BK105.out 13; have hfz30_14 := blk_frozen BK105.out 14; have hfz30_15 := blk_frozen BK105.out 15) | (go_at_call 30; (with_reducible refine (clash_Of.calls kj3 a0_0 (Go.bits .and .u32 a0_1 1) (Go.bits .and .u32 a0_2 1) a0_3 a0_4 a0_5 a0_6 a0_7 a0_8 a0_9 a0_10 a0_11 (Go.bits .and .u32 a0_12 1) (Go.bits .and .u32 a0_13 1) a0_14 a0_15 (Go.bits .and .u32 a1 1) (Go.bits .and .u32 a2 1) t107 _ A27.out).mono ?_); rintro e w31 ⟨rfl, hb⟩; have n0_ := Aside0.mk (blk_below (g := gb104) (o := .cells #[.int .i64 a0_0, .int .u32 a0_1, .int .u32 a0_2, .int .u32 a0_3, .int .u32 a0_4, .int .u32 a0_5, .int .u32 a0_6, .int .i64 a0_7, .int .i64 a0_8, .int .u32 a0_9, .int .i64 a0_10, .int .i64 a0_11, .int .u32 a0_12, .int .u32 a0_13, .string a0_14, .string a0_15] 45 (0, 0)) (by (with_reducible repeat (first | refine blk_drewN ?_ _ | refine blk_drew ?_ | refine blk_alloc ?_ _)); exact BK104.out) hb); have n1_ := Aside0.mk (blk_below (g := gb105) (o := .cells #[.int .i64 a0_0, .int .u32 (Go.bits .and .u32 a0_1 1), .int .u32 (Go.bits .and .u32 a0_2 1), .int .u32 a0_3, .int .u32 a0_4, .int .u32 a0_5, .int .u32 a0_6, .int .i64 a0_7, .int .i64 a0_8, .int .u32 a0_9, .int .i64 a0_10, .int .i64 a0_11, .int .u32 (Go.bits .and .u32 a0_12 1), .int .u32 (Go.bits .and .u32 a0_13 1), .string a0_14, .string a0_15] 45 (0, 0)) (by (with_reducible repeat (first | refine blk_drewN ?_ _ | refine blk_drew ?_ | refine blk_alloc ?_ _)); exact BK105.out) hb); have n2_ := Aside0.mk (below_step (by repeat (first | (with_reducible first | exact HB.out | apply below_alloc | apply pw_below_drewN | apply below_drew1 | refine below_set ?_ GE104.out | refine below_set ?_ GE105.out) | exact HB.out)) hb); clear BK104; clear BK105; clear HB; have BK104 := n0_; have BK105 := n1_; have HB := n2_; clear n0_ n1_ n2_; (try clear hb); (try clear hb2); (try clear hk); (try clear hi)))
          go_ret
          exact ⟨by first | rfl | (simp [errW_none, errW_some] <;> rfl) | (simp [*, errW_none, errW_some] <;> rfl), by repeat (first | (with_reducible first | exact HB.out | apply below_alloc | apply pw_below_drewN | apply below_drew1 | refine below_set ?_ GE104.out | refine below_set ?_ GE105.out) | exact HB.out)⟩
        · replace c26 := Bool.eq_false_iff.mpr c26
          subst c26
          have H1 : (some false) = some r := by rw [if_neg (show ¬ (false = true) by decide)] at H; exact H
          clear H
          have H := H1
          clear H1
          obtain rfl := Option.some.inj H
          go_wp2_with (first | ((with_reducible refine gate_callee (f := 29) rfl ?_); refine goesL_ (some 85) rfl rfl Try.func29 (by kernel_rfl) rfl #[] rfl (by (try simp only [List.map_toArray, List.map_cons, List.map_nil]); first | done | rfl | (simp only [List.length_drop, List.length_take]; rfl)) ?_; (with_reducible refine (crosswaylaw23_awake.calls kj3  false _ A25.out).mono ?_); rintro e w32 ⟨rfl, hb⟩; refine ⟨_, rfl, ?_⟩; have n0_ := Aside0.mk (blk_below (g := gb104) (o := .cells #[.int .i64 a0_0, .int .u32 a0_1, .int .u32 a0_2, .int .u32 a0_3, .int .u32 a0_4, .int .u32 a0_5, .int .u32 a0_6, .int .i64 a0_7, .int .i64 a0_8, .int .u32 a0_9, .int .i64 a0_10, .int .i64 a0_11, .int .u32 a0_12, .int .u32 a0_13, .string a0_14, .string a0_15] 45 (0, 0)) (by (with_reducible repeat (first | refine blk_drewN ?_ _ | refine blk_drew ?_ | refine blk_alloc ?_ _)); exact BK104.out) hb); have n1_ := Aside0.mk (blk_below (g := gb105) (o := .cells #[.int .i64 a0_0, .int .u32 (Go.bits .and .u32 a0_1 1), .int .u32 (Go.bits .and .u32 a0_2 1), .int .u32 a0_3, .int .u32 a0_4, .int .u32 a0_5, .int .u32 a0_6, .int .i64 a0_7, .int .i64 a0_8, .int .u32 a0_9, .int .i64 a0_10, .int .i64 a0_11, .int .u32 (Go.bits .and .u32 a0_12 1), .int .u32 (Go.bits .and .u32 a0_13 1), .string a0_14, .string a0_15] 45 (0, 0)) (by (with_reducible repeat (first | refine blk_drewN ?_ _ | refine blk_drew ?_ | refine blk_alloc ?_ _)); exact BK105.out) hb); have n2_ := Aside0.mk (below_step (by repeat (first | (with_reducible first | exact HB.out | apply below_alloc | apply pw_below_drewN | apply below_drew1 | refine below_set ?_ GE104.out | refine below_set ?_ GE105.out) | exact HB.out)) hb); clear BK104; clear BK105; clear HB; have BK104 := n0_; have BK105 := n1_; have HB := n2_; clear n0_ n1_ n2_; (try clear hb); (try clear hb2); (try clear hk); (try clear hi)))
          go_ret
          exact ⟨by first | rfl | (simp [errW_none, errW_some] <;> rfl) | (simp [*, errW_none, errW_some] <;> rfl), by repeat (first | (with_reducible first | exact HB.out | apply below_alloc | apply pw_below_drewN | apply below_drew1 | refine below_set ?_ GE104.out | refine below_set ?_ GE105.out) | exact HB.out)⟩
      · replace c24 := Bool.eq_false_iff.mpr c24
        subst c24
        have H1 : (if (Go.bits .and .u32 a0_1 1) = (Go.bits .and .u32 a1 1) then ((crosswaylaw23_awake.f kj3).bind fun t108 => (if t108 = true then ((clash_Of.f kj3 a0_0 (Go.bits .and .u32 a0_1 1) (Go.bits .and .u32 a0_2 1) a0_3 a0_4 a0_5 a0_6 a0_7 a0_8 a0_9 a0_10 a0_11 (Go.bits .and .u32 a0_12 1) (Go.bits .and .u32 a0_13 1) a0_14 a0_15 (Go.bits .and .u32 a1 1) (Go.bits .and .u32 a2 1)).bind fun t109 => (some (t109 == 2))) else (some false))) else (if (Go.bits .and .u32 a2 1) = 0 then (crosswaylaw23_ClashOf.j1 kj3 (Go.bits .and .u32 a1 1) (Go.bits .and .u32 a2 1) 0 false a0_0 (Go.bits .and .u32 a0_1 1) (Go.bits .and .u32 a0_2 1) a0_3 a0_4 a0_5 a0_6 a0_7 a0_8 a0_9 a0_10 a0_11 (Go.bits .and .u32 a0_12 1) (Go.bits .and .u32 a0_13 1) a0_14 a0_15) else (crosswaylaw23_ClashOf.j1 kj3 (Go.bits .and .u32 a1 1) (Go.bits .and .u32 a2 1) 0 ((Go.bits .and .u32 a0_2 1) == (Go.bits .and .u32 a2 1)) a0_0 (Go.bits .and .u32 a0_1 1) (Go.bits .and .u32 a0_2 1) a0_3 a0_4 a0_5 a0_6 a0_7 a0_8 a0_9 a0_10 a0_11 (Go.bits .and .u32 a0_12 1) (Go.bits .and .u32 a0_13 1) a0_14 a0_15))) = some r := by rw [if_neg (show ¬ (false = true) by decide)] at H; exact H
        clear H
        have H := H1
        clear H1
        by_cases c33 : (Go.bits .and .u32 a0_1 1) = (Go.bits .and .u32 a1 1)
        · rw [if_pos c33] at H
          have c33b0 : ((Go.bits .and .u32 a0_1 1) == (Go.bits .and .u32 a1 1)) = true := beq_iff_eq.mpr c33
          have c33b1 : ((Go.bits .and .u32 a0_1 1) != (Go.bits .and .u32 a1 1)) = false := bne_eq_false_iff_eq.mpr c33
          clear c33
          replace H := Option.bind_eq_some_iff.mp H
          obtain ⟨t108, A340, H⟩ := H
          replace H : (if t108 = true then ((clash_Of.f kj3 a0_0 (Go.bits .and .u32 a0_1 1) (Go.bits .and .u32 a0_2 1) a0_3 a0_4 a0_5 a0_6 a0_7 a0_8 a0_9 a0_10 a0_11 (Go.bits .and .u32 a0_12 1) (Go.bits .and .u32 a0_13 1) a0_14 a0_15 (Go.bits .and .u32 a1 1) (Go.bits .and .u32 a2 1)).bind fun t109 => (some (t109 == 2))) else (some false)) = some r := H
          have A34 := Aside0.mk A340
          clear A340
          by_cases c35 : t108 = true
          · subst c35
            have H1 : ((clash_Of.f kj3 a0_0 (Go.bits .and .u32 a0_1 1) (Go.bits .and .u32 a0_2 1) a0_3 a0_4 a0_5 a0_6 a0_7 a0_8 a0_9 a0_10 a0_11 (Go.bits .and .u32 a0_12 1) (Go.bits .and .u32 a0_13 1) a0_14 a0_15 (Go.bits .and .u32 a1 1) (Go.bits .and .u32 a2 1)).bind fun t109 => (some (t109 == 2))) = some r := by rw [if_pos rfl] at H; exact H
            clear H
            have H := H1
            clear H1
            replace H := Option.bind_eq_some_iff.mp H
            obtain ⟨t109, A360, H⟩ := H
            replace H : (some (t109 == 2)) = some r := H
            have A36 := Aside0.mk A360
            clear A360
            obtain rfl := Option.some.inj H
            have hnb37 := NB105_104.out
            have hnc37 := NB104_105.out
            have hcz38_0 : wc.cell? ⟨gb105, 0, none⟩ = some (.int .i64 a0_0) := (blk_cell BK105.out 0).trans rfl
            have hcz38_1 : wc.cell? ⟨gb105, 1, none⟩ = some (.int .u32 (Go.bits .and .u32 a0_1 1)) := (blk_cell BK105.out 1).trans rfl
            have hcz38_2 : wc.cell? ⟨gb105, 2, none⟩ = some (.int .u32 (Go.bits .and .u32 a0_2 1)) := (blk_cell BK105.out 2).trans rfl
            have hcz38_3 : wc.cell? ⟨gb105, 3, none⟩ = some (.int .u32 a0_3) := (blk_cell BK105.out 3).trans rfl
            have hcz38_4 : wc.cell? ⟨gb105, 4, none⟩ = some (.int .u32 a0_4) := (blk_cell BK105.out 4).trans rfl
            have hcz38_5 : wc.cell? ⟨gb105, 5, none⟩ = some (.int .u32 a0_5) := (blk_cell BK105.out 5).trans rfl
            have hcz38_6 : wc.cell? ⟨gb105, 6, none⟩ = some (.int .u32 a0_6) := (blk_cell BK105.out 6).trans rfl
            have hcz38_7 : wc.cell? ⟨gb105, 7, none⟩ = some (.int .i64 a0_7) := (blk_cell BK105.out 7).trans rfl
            have hcz38_8 : wc.cell? ⟨gb105, 8, none⟩ = some (.int .i64 a0_8) := (blk_cell BK105.out 8).trans rfl
            have hcz38_9 : wc.cell? ⟨gb105, 9, none⟩ = some (.int .u32 a0_9) := (blk_cell BK105.out 9).trans rfl
            have hcz38_10 : wc.cell? ⟨gb105, 10, none⟩ = some (.int .i64 a0_10) := (blk_cell BK105.out 10).trans rfl
            have hcz38_11 : wc.cell? ⟨gb105, 11, none⟩ = some (.int .i64 a0_11) := (blk_cell BK105.out 11).trans rfl
            have hcz38_12 : wc.cell? ⟨gb105, 12, none⟩ = some (.int .u32 (Go.bits .and .u32 a0_12 1)) := (blk_cell BK105.out 12).trans rfl
            have hcz38_13 : wc.cell? ⟨gb105, 13, none⟩ = some (.int .u32 (Go.bits .and .u32 a0_13 1)) := (blk_cell BK105.out 13).trans rfl
            have hcz38_14 : wc.cell? ⟨gb105, 14, none⟩ = some (.string a0_14) := (blk_cell BK105.out 14).trans rfl
            have hcz38_15 : wc.cell? ⟨gb105, 15, none⟩ = some (.string a0_15) := (blk_cell BK105.out 15).trans rfl
            have hfz38_0 := blk_frozen BK105.out 0
            have hfz38_1 := blk_frozen BK105.out 1
            have hfz38_2 := blk_frozen BK105.out 2
            have hfz38_3 := blk_frozen BK105.out 3
            have hfz38_4 := blk_frozen BK105.out 4
            have hfz38_5 := blk_frozen BK105.out 5
            have hfz38_6 := blk_frozen BK105.out 6
            have hfz38_7 := blk_frozen BK105.out 7
            have hfz38_8 := blk_frozen BK105.out 8
            have hfz38_9 := blk_frozen BK105.out 9
            have hfz38_10 := blk_frozen BK105.out 10
            have hfz38_11 := blk_frozen BK105.out 11
            have hfz38_12 := blk_frozen BK105.out 12
            have hfz38_13 := blk_frozen BK105.out 13
            have hfz38_14 := blk_frozen BK105.out 14
            have hfz38_15 := blk_frozen BK105.out 15
            go_wp2_with (first | ((with_reducible refine gate_callee (f := 29) rfl ?_); refine goesL_ (some 85) rfl rfl Try.func29 (by kernel_rfl) rfl #[] rfl (by (try simp only [List.map_toArray, List.map_cons, List.map_nil]); first | done | rfl | (simp only [List.length_drop, List.length_take]; rfl)) ?_; (with_reducible refine (crosswaylaw23_awake.calls kj3  true _ A34.out).mono ?_); rintro e w39 ⟨rfl, hb⟩; refine ⟨_, rfl, ?_⟩; have n0_ := Aside0.mk (blk_below (g := gb104) (o := .cells #[.int .i64 a0_0, .int .u32 a0_1, .int .u32 a0_2, .int .u32 a0_3, .int .u32 a0_4, .int .u32 a0_5, .int .u32 a0_6, .int .i64 a0_7, .int .i64 a0_8, .int .u32 a0_9, .int .i64 a0_10, .int .i64 a0_11, .int .u32 a0_12, .int .u32 a0_13, .string a0_14, .string a0_15] 45 (0, 0)) (by (with_reducible repeat (first | refine blk_drewN ?_ _ | refine blk_drew ?_ | refine blk_alloc ?_ _)); exact BK104.out) hb); have n1_ := Aside0.mk (blk_below (g := gb105) (o := .cells #[.int .i64 a0_0, .int .u32 (Go.bits .and .u32 a0_1 1), .int .u32 (Go.bits .and .u32 a0_2 1), .int .u32 a0_3, .int .u32 a0_4, .int .u32 a0_5, .int .u32 a0_6, .int .i64 a0_7, .int .i64 a0_8, .int .u32 a0_9, .int .i64 a0_10, .int .i64 a0_11, .int .u32 (Go.bits .and .u32 a0_12 1), .int .u32 (Go.bits .and .u32 a0_13 1), .string a0_14, .string a0_15] 45 (0, 0)) (by (with_reducible repeat (first | refine blk_drewN ?_ _ | refine blk_drew ?_ | refine blk_alloc ?_ _)); exact BK105.out) hb); have n2_ := Aside0.mk (below_step (by repeat (first | (with_reducible first | exact HB.out | apply below_alloc | apply pw_below_drewN | apply below_drew1 | refine below_set ?_ GE104.out | refine below_set ?_ GE105.out) | exact HB.out)) hb); clear BK104; clear BK105; clear HB; have BK104 := n0_; have BK105 := n1_; have HB := n2_; clear n0_ n1_ n2_; (try clear hb); (try clear hb2); (try clear hk); (try clear hi); have hcz40_0 : w39.cell? ⟨gb105, 0, none⟩ = some (.int .i64 a0_0) := (blk_cell BK105.out 0).trans rfl; have hcz40_1 : w39.cell? ⟨gb105, 1, none⟩ = some (.int .u32 (Go.bits .and .u32 a0_1 1)) := (blk_cell BK105.out 1).trans rfl; have hcz40_2 : w39.cell? ⟨gb105, 2, none⟩ = some (.int .u32 (Go.bits .and .u32 a0_2 1)) := (blk_cell BK105.out 2).trans rfl; have hcz40_3 : w39.cell? ⟨gb105, 3, none⟩ = some (.int .u32 a0_3) := (blk_cell BK105.out 3).trans rfl; have hcz40_4 : w39.cell? ⟨gb105, 4, none⟩ = some (.int .u32 a0_4) := (blk_cell BK105.out 4).trans rfl; have hcz40_5 : w39.cell? ⟨gb105, 5, none⟩ = some (.int .u32 a0_5) := (blk_cell BK105.out 5).trans rfl; have hcz40_6 : w39.cell? ⟨gb105, 6, none⟩ = some (.int .u32 a0_6) := (blk_cell BK105.out 6).trans rfl; have hcz40_7 : w39.cell? ⟨gb105, 7, none⟩ = some (.int .i64 a0_7) := (blk_cell BK105.out 7).trans rfl; have hcz40_8 : w39.cell? ⟨gb105, 8, none⟩ = some (.int .i64 a0_8) := (blk_cell BK105.out 8).trans rfl; have hcz40_9 : w39.cell? ⟨gb105, 9, none⟩ = some (.int .u32 a0_9) := (blk_cell BK105.out 9).trans rfl; have hcz40_10 : w39.cell? ⟨gb105, 10, none⟩ = some (.int .i64 a0_10) := (blk_cell BK105.out 10).trans rfl; have hcz40_11 : w39.cell? ⟨gb105, 11, none⟩ = some (.int .i64 a0_11) := (blk_cell BK105.out 11).trans rfl; have hcz40_12 : w39.cell? ⟨gb105, 12, none⟩ = some (.int .u32 (Go.bits .and .u32 a0_12 1)) := (blk_cell BK105.out 12).trans rfl; have hcz40_13 : w39.cell? ⟨gb105, 13, none⟩ = some (.int .u32 (Go.bits .and .u32 a0_13 1)) := (blk_cell BK105.out 13).trans rfl; have hcz40_14 : w39.cell? ⟨gb105, 14, none⟩ = some (.string a0_14) := (blk_cell BK105.out 14).trans rfl; have hcz40_15 : w39.cell? ⟨gb105, 15, none⟩ = some (.string a0_15) := (blk_cell BK105.out 15).trans rfl; have hfz40_0 := blk_frozen BK105.out 0; have hfz40_1 := blk_frozen BK105.out 1; have hfz40_2 := blk_frozen BK105.out 2; have hfz40_3 := blk_frozen BK105.out 3; have hfz40_4 := blk_frozen BK105.out 4; have hfz40_5 := blk_frozen BK105.out 5; have hfz40_6 := blk_frozen BK105.out 6; have hfz40_7 := blk_frozen BK105.out 7; have hfz40_8 := blk_frozen BK105.out 8; have hfz40_9 := blk_frozen BK105.out 9; have hfz40_10 := blk_frozen BK105.out 10; have hfz40_11 := blk_frozen BK105.out 11; have hfz40_12 := blk_frozen BK105.out 12; have hfz40_13 := blk_frozen BK105.out 13; have hfz40_14 := blk_frozen BK105.out 14; have hfz40_15 := blk_frozen BK105.out 15) | (go_at_call 30; (with_reducible refine (clash_Of.calls kj3 a0_0 (Go.bits .and .u32 a0_1 1) (Go.bits .and .u32 a0_2 1) a0_3 a0_4 a0_5 a0_6 a0_7 a0_8 a0_9 a0_10 a0_11 (Go.bits .and .u32 a0_12 1) (Go.bits .and .u32 a0_13 1) a0_14 a0_15 (Go.bits .and .u32 a1 1) (Go.bits .and .u32 a2 1) t109 _ A36.out).mono ?_); rintro e w41 ⟨rfl, hb⟩; have n0_ := Aside0.mk (blk_below (g := gb104) (o := .cells #[.int .i64 a0_0, .int .u32 a0_1, .int .u32 a0_2, .int .u32 a0_3, .int .u32 a0_4, .int .u32 a0_5, .int .u32 a0_6, .int .i64 a0_7, .int .i64 a0_8, .int .u32 a0_9, .int .i64 a0_10, .int .i64 a0_11, .int .u32 a0_12, .int .u32 a0_13, .string a0_14, .string a0_15] 45 (0, 0)) (by (with_reducible repeat (first | refine blk_drewN ?_ _ | refine blk_drew ?_ | refine blk_alloc ?_ _)); exact BK104.out) hb); have n1_ := Aside0.mk (blk_below (g := gb105) (o := .cells #[.int .i64 a0_0, .int .u32 (Go.bits .and .u32 a0_1 1), .int .u32 (Go.bits .and .u32 a0_2 1), .int .u32 a0_3, .int .u32 a0_4, .int .u32 a0_5, .int .u32 a0_6, .int .i64 a0_7, .int .i64 a0_8, .int .u32 a0_9, .int .i64 a0_10, .int .i64 a0_11, .int .u32 (Go.bits .and .u32 a0_12 1), .int .u32 (Go.bits .and .u32 a0_13 1), .string a0_14, .string a0_15] 45 (0, 0)) (by (with_reducible repeat (first | refine blk_drewN ?_ _ | refine blk_drew ?_ | refine blk_alloc ?_ _)); exact BK105.out) hb); have n2_ := Aside0.mk (below_step (by repeat (first | (with_reducible first | exact HB.out | apply below_alloc | apply pw_below_drewN | apply below_drew1 | refine below_set ?_ GE104.out | refine below_set ?_ GE105.out) | exact HB.out)) hb); clear BK104; clear BK105; clear HB; have BK104 := n0_; have BK105 := n1_; have HB := n2_; clear n0_ n1_ n2_; (try clear hb); (try clear hb2); (try clear hk); (try clear hi)))
            go_ret
            exact ⟨by first | rfl | (simp [errW_none, errW_some] <;> rfl) | (simp [*, errW_none, errW_some] <;> rfl), by repeat (first | (with_reducible first | exact HB.out | apply below_alloc | apply pw_below_drewN | apply below_drew1 | refine below_set ?_ GE104.out | refine below_set ?_ GE105.out) | exact HB.out)⟩
          · replace c35 := Bool.eq_false_iff.mpr c35
            subst c35
            have H1 : (some false) = some r := by rw [if_neg (show ¬ (false = true) by decide)] at H; exact H
            clear H
            have H := H1
            clear H1
            obtain rfl := Option.some.inj H
            have hnb42 := NB105_104.out
            have hnc42 := NB104_105.out
            have hcz43_0 : wc.cell? ⟨gb105, 0, none⟩ = some (.int .i64 a0_0) := (blk_cell BK105.out 0).trans rfl
            have hcz43_1 : wc.cell? ⟨gb105, 1, none⟩ = some (.int .u32 (Go.bits .and .u32 a0_1 1)) := (blk_cell BK105.out 1).trans rfl
            have hcz43_2 : wc.cell? ⟨gb105, 2, none⟩ = some (.int .u32 (Go.bits .and .u32 a0_2 1)) := (blk_cell BK105.out 2).trans rfl
            have hcz43_3 : wc.cell? ⟨gb105, 3, none⟩ = some (.int .u32 a0_3) := (blk_cell BK105.out 3).trans rfl
            have hcz43_4 : wc.cell? ⟨gb105, 4, none⟩ = some (.int .u32 a0_4) := (blk_cell BK105.out 4).trans rfl
            have hcz43_5 : wc.cell? ⟨gb105, 5, none⟩ = some (.int .u32 a0_5) := (blk_cell BK105.out 5).trans rfl
            have hcz43_6 : wc.cell? ⟨gb105, 6, none⟩ = some (.int .u32 a0_6) := (blk_cell BK105.out 6).trans rfl
            have hcz43_7 : wc.cell? ⟨gb105, 7, none⟩ = some (.int .i64 a0_7) := (blk_cell BK105.out 7).trans rfl
            have hcz43_8 : wc.cell? ⟨gb105, 8, none⟩ = some (.int .i64 a0_8) := (blk_cell BK105.out 8).trans rfl
            have hcz43_9 : wc.cell? ⟨gb105, 9, none⟩ = some (.int .u32 a0_9) := (blk_cell BK105.out 9).trans rfl
            have hcz43_10 : wc.cell? ⟨gb105, 10, none⟩ = some (.int .i64 a0_10) := (blk_cell BK105.out 10).trans rfl
            have hcz43_11 : wc.cell? ⟨gb105, 11, none⟩ = some (.int .i64 a0_11) := (blk_cell BK105.out 11).trans rfl
            have hcz43_12 : wc.cell? ⟨gb105, 12, none⟩ = some (.int .u32 (Go.bits .and .u32 a0_12 1)) := (blk_cell BK105.out 12).trans rfl
            have hcz43_13 : wc.cell? ⟨gb105, 13, none⟩ = some (.int .u32 (Go.bits .and .u32 a0_13 1)) := (blk_cell BK105.out 13).trans rfl
            have hcz43_14 : wc.cell? ⟨gb105, 14, none⟩ = some (.string a0_14) := (blk_cell BK105.out 14).trans rfl
            have hcz43_15 : wc.cell? ⟨gb105, 15, none⟩ = some (.string a0_15) := (blk_cell BK105.out 15).trans rfl
            have hfz43_0 := blk_frozen BK105.out 0
            have hfz43_1 := blk_frozen BK105.out 1
            have hfz43_2 := blk_frozen BK105.out 2
            have hfz43_3 := blk_frozen BK105.out 3
            have hfz43_4 := blk_frozen BK105.out 4
            have hfz43_5 := blk_frozen BK105.out 5
            have hfz43_6 := blk_frozen BK105.out 6
            have hfz43_7 := blk_frozen BK105.out 7
            have hfz43_8 := blk_frozen BK105.out 8
            have hfz43_9 := blk_frozen BK105.out 9
            have hfz43_10 := blk_frozen BK105.out 10
            have hfz43_11 := blk_frozen BK105.out 11
            have hfz43_12 := blk_frozen BK105.out 12
            have hfz43_13 := blk_frozen BK105.out 13
            have hfz43_14 := blk_frozen BK105.out 14
            have hfz43_15 := blk_frozen BK105.out 15
            go_wp2_with (first | ((with_reducible refine gate_callee (f := 29) rfl ?_); refine goesL_ (some 85) rfl rfl Try.func29 (by kernel_rfl) rfl #[] rfl (by (try simp only [List.map_toArray, List.map_cons, List.map_nil]); first | done | rfl | (simp only [List.length_drop, List.length_take]; rfl)) ?_; (with_reducible refine (crosswaylaw23_awake.calls kj3  false _ A34.out).mono ?_); rintro e w44 ⟨rfl, hb⟩; refine ⟨_, rfl, ?_⟩; have n0_ := Aside0.mk (blk_below (g := gb104) (o := .cells #[.int .i64 a0_0, .int .u32 a0_1, .int .u32 a0_2, .int .u32 a0_3, .int .u32 a0_4, .int .u32 a0_5, .int .u32 a0_6, .int .i64 a0_7, .int .i64 a0_8, .int .u32 a0_9, .int .i64 a0_10, .int .i64 a0_11, .int .u32 a0_12, .int .u32 a0_13, .string a0_14, .string a0_15] 45 (0, 0)) (by (with_reducible repeat (first | refine blk_drewN ?_ _ | refine blk_drew ?_ | refine blk_alloc ?_ _)); exact BK104.out) hb); have n1_ := Aside0.mk (blk_below (g := gb105) (o := .cells #[.int .i64 a0_0, .int .u32 (Go.bits .and .u32 a0_1 1), .int .u32 (Go.bits .and .u32 a0_2 1), .int .u32 a0_3, .int .u32 a0_4, .int .u32 a0_5, .int .u32 a0_6, .int .i64 a0_7, .int .i64 a0_8, .int .u32 a0_9, .int .i64 a0_10, .int .i64 a0_11, .int .u32 (Go.bits .and .u32 a0_12 1), .int .u32 (Go.bits .and .u32 a0_13 1), .string a0_14, .string a0_15] 45 (0, 0)) (by (with_reducible repeat (first | refine blk_drewN ?_ _ | refine blk_drew ?_ | refine blk_alloc ?_ _)); exact BK105.out) hb); have n2_ := Aside0.mk (below_step (by repeat (first | (with_reducible first | exact HB.out | apply below_alloc | apply pw_below_drewN | apply below_drew1 | refine below_set ?_ GE104.out | refine below_set ?_ GE105.out) | exact HB.out)) hb); clear BK104; clear BK105; clear HB; have BK104 := n0_; have BK105 := n1_; have HB := n2_; clear n0_ n1_ n2_; (try clear hb); (try clear hb2); (try clear hk); (try clear hi)))
            go_ret
            exact ⟨by first | rfl | (simp [errW_none, errW_some] <;> rfl) | (simp [*, errW_none, errW_some] <;> rfl), by repeat (first | (with_reducible first | exact HB.out | apply below_alloc | apply pw_below_drewN | apply below_drew1 | refine below_set ?_ GE104.out | refine below_set ?_ GE105.out) | exact HB.out)⟩
        · rw [if_neg c33] at H
          have c33b0 : ((Go.bits .and .u32 a0_1 1) == (Go.bits .and .u32 a1 1)) = false := beq_eq_false_iff_ne.mpr c33
          have c33b1 : ((Go.bits .and .u32 a0_1 1) != (Go.bits .and .u32 a1 1)) = true := bne_iff_ne.mpr c33
          have HC45 := Aside0.mk H
          clear H
          have hnb46 := NB105_104.out
          have hnc46 := NB104_105.out
          have hcz47_0 : wc.cell? ⟨gb105, 0, none⟩ = some (.int .i64 a0_0) := (blk_cell BK105.out 0).trans rfl
          have hcz47_1 : wc.cell? ⟨gb105, 1, none⟩ = some (.int .u32 (Go.bits .and .u32 a0_1 1)) := (blk_cell BK105.out 1).trans rfl
          have hcz47_2 : wc.cell? ⟨gb105, 2, none⟩ = some (.int .u32 (Go.bits .and .u32 a0_2 1)) := (blk_cell BK105.out 2).trans rfl
          have hcz47_3 : wc.cell? ⟨gb105, 3, none⟩ = some (.int .u32 a0_3) := (blk_cell BK105.out 3).trans rfl
          have hcz47_4 : wc.cell? ⟨gb105, 4, none⟩ = some (.int .u32 a0_4) := (blk_cell BK105.out 4).trans rfl
          have hcz47_5 : wc.cell? ⟨gb105, 5, none⟩ = some (.int .u32 a0_5) := (blk_cell BK105.out 5).trans rfl
          have hcz47_6 : wc.cell? ⟨gb105, 6, none⟩ = some (.int .u32 a0_6) := (blk_cell BK105.out 6).trans rfl
          have hcz47_7 : wc.cell? ⟨gb105, 7, none⟩ = some (.int .i64 a0_7) := (blk_cell BK105.out 7).trans rfl
          have hcz47_8 : wc.cell? ⟨gb105, 8, none⟩ = some (.int .i64 a0_8) := (blk_cell BK105.out 8).trans rfl
          have hcz47_9 : wc.cell? ⟨gb105, 9, none⟩ = some (.int .u32 a0_9) := (blk_cell BK105.out 9).trans rfl
          have hcz47_10 : wc.cell? ⟨gb105, 10, none⟩ = some (.int .i64 a0_10) := (blk_cell BK105.out 10).trans rfl
          have hcz47_11 : wc.cell? ⟨gb105, 11, none⟩ = some (.int .i64 a0_11) := (blk_cell BK105.out 11).trans rfl
          have hcz47_12 : wc.cell? ⟨gb105, 12, none⟩ = some (.int .u32 (Go.bits .and .u32 a0_12 1)) := (blk_cell BK105.out 12).trans rfl
          have hcz47_13 : wc.cell? ⟨gb105, 13, none⟩ = some (.int .u32 (Go.bits .and .u32 a0_13 1)) := (blk_cell BK105.out 13).trans rfl
          have hcz47_14 : wc.cell? ⟨gb105, 14, none⟩ = some (.string a0_14) := (blk_cell BK105.out 14).trans rfl
          have hcz47_15 : wc.cell? ⟨gb105, 15, none⟩ = some (.string a0_15) := (blk_cell BK105.out 15).trans rfl
          have hfz47_0 := blk_frozen BK105.out 0
          have hfz47_1 := blk_frozen BK105.out 1
          have hfz47_2 := blk_frozen BK105.out 2
          have hfz47_3 := blk_frozen BK105.out 3
          have hfz47_4 := blk_frozen BK105.out 4
          have hfz47_5 := blk_frozen BK105.out 5
          have hfz47_6 := blk_frozen BK105.out 6
          have hfz47_7 := blk_frozen BK105.out 7
          have hfz47_8 := blk_frozen BK105.out 8
          have hfz47_9 := blk_frozen BK105.out 9
          have hfz47_10 := blk_frozen BK105.out 10
          have hfz47_11 := blk_frozen BK105.out 11
          have hfz47_12 := blk_frozen BK105.out 12
          have hfz47_13 := blk_frozen BK105.out 13
          have hfz47_14 := blk_frozen BK105.out 14
          have hfz47_15 := blk_frozen BK105.out 15
          go_upto_region 9 with (fail)
          go_cut [52] (fun v52 wc => ∃ (kq : Nat) (x52_44 : Bool), v52 = .bool x52_44 ∧ Aside0 (crosswaylaw23_ClashOf.j1 kq (Go.bits .and .u32 a1 1) (Go.bits .and .u32 a2 1) 0 x52_44 a0_0 (Go.bits .and .u32 a0_1 1) (Go.bits .and .u32 a0_2 1) a0_3 a0_4 a0_5 a0_6 a0_7 a0_8 a0_9 a0_10 a0_11 (Go.bits .and .u32 a0_12 1) (Go.bits .and .u32 a0_13 1) a0_14 a0_15 = some r) ∧ Aside0 (kq ≤ kj3) ∧ Aside0 (wc.heap[gb104]? = some (.cells #[.int .i64 a0_0, .int .u32 a0_1, .int .u32 a0_2, .int .u32 a0_3, .int .u32 a0_4, .int .u32 a0_5, .int .u32 a0_6, .int .i64 a0_7, .int .i64 a0_8, .int .u32 a0_9, .int .i64 a0_10, .int .i64 a0_11, .int .u32 a0_12, .int .u32 a0_13, .string a0_14, .string a0_15] 45 (0, 0))) ∧ Aside0 (wc.heap[gb105]? = some (.cells #[.int .i64 a0_0, .int .u32 (Go.bits .and .u32 a0_1 1), .int .u32 (Go.bits .and .u32 a0_2 1), .int .u32 a0_3, .int .u32 a0_4, .int .u32 a0_5, .int .u32 a0_6, .int .i64 a0_7, .int .i64 a0_8, .int .u32 a0_9, .int .i64 a0_10, .int .i64 a0_11, .int .u32 (Go.bits .and .u32 a0_12 1), .int .u32 (Go.bits .and .u32 a0_13 1), .string a0_14, .string a0_15] 45 (0, 0))) ∧ Aside0 (Below w.heap.size w wc))
          case first => as_aux_lemma =>
            have H := HC45.out
            clear HC45
            by_cases c48 : (Go.bits .and .u32 a2 1) = 0
            · rw [if_pos c48] at H
              have c48b0 : ((Go.bits .and .u32 a2 1) == 0) = true := beq_iff_eq.mpr c48
              have c48b1 : ((Go.bits .and .u32 a2 1) != 0) = false := bne_eq_false_iff_eq.mpr c48
              clear c48
              (first | rw [c48b0] | (simp only [i64_w, i32_w]; rw [c48b0]) | skip)
              have H' := Aside0.mk H
              clear H
              go_wp2
              go_meet
              case rel => exact ⟨_, (false), (by first | rfl | (simp; done) | (simp [*]; done)), H', ⟨by have := HJ3.out; first | omega | exact Nat.le_refl _⟩, ⟨by (with_reducible repeat (first | refine blk_drewN ?_ _ | refine blk_drew ?_ | refine blk_alloc ?_ _)); exact BK104.out⟩, ⟨by (with_reducible repeat (first | refine blk_drewN ?_ _ | refine blk_drew ?_ | refine blk_alloc ?_ _)); exact BK105.out⟩, ⟨by repeat (first | (with_reducible first | exact HB.out | apply below_alloc | apply pw_below_drewN | apply below_drew1 | refine below_set ?_ GE104.out | refine below_set ?_ GE105.out) | exact HB.out)⟩⟩
            · rw [if_neg c48] at H
              have c48b0 : ((Go.bits .and .u32 a2 1) == 0) = false := beq_eq_false_iff_ne.mpr c48
              have c48b1 : ((Go.bits .and .u32 a2 1) != 0) = true := bne_iff_ne.mpr c48
              (first | rw [c48b0] | (simp only [i64_w, i32_w]; rw [c48b0]) | skip)
              have H' := Aside0.mk H
              clear H
              have hnb49 := NB105_104.out
              have hnc49 := NB104_105.out
              have hcz50_0 : wc.cell? ⟨gb105, 0, none⟩ = some (.int .i64 a0_0) := (blk_cell BK105.out 0).trans rfl
              have hcz50_1 : wc.cell? ⟨gb105, 1, none⟩ = some (.int .u32 (Go.bits .and .u32 a0_1 1)) := (blk_cell BK105.out 1).trans rfl
              have hcz50_2 : wc.cell? ⟨gb105, 2, none⟩ = some (.int .u32 (Go.bits .and .u32 a0_2 1)) := (blk_cell BK105.out 2).trans rfl
              have hcz50_3 : wc.cell? ⟨gb105, 3, none⟩ = some (.int .u32 a0_3) := (blk_cell BK105.out 3).trans rfl
              have hcz50_4 : wc.cell? ⟨gb105, 4, none⟩ = some (.int .u32 a0_4) := (blk_cell BK105.out 4).trans rfl
              have hcz50_5 : wc.cell? ⟨gb105, 5, none⟩ = some (.int .u32 a0_5) := (blk_cell BK105.out 5).trans rfl
              have hcz50_6 : wc.cell? ⟨gb105, 6, none⟩ = some (.int .u32 a0_6) := (blk_cell BK105.out 6).trans rfl
              have hcz50_7 : wc.cell? ⟨gb105, 7, none⟩ = some (.int .i64 a0_7) := (blk_cell BK105.out 7).trans rfl
              have hcz50_8 : wc.cell? ⟨gb105, 8, none⟩ = some (.int .i64 a0_8) := (blk_cell BK105.out 8).trans rfl
              have hcz50_9 : wc.cell? ⟨gb105, 9, none⟩ = some (.int .u32 a0_9) := (blk_cell BK105.out 9).trans rfl
              have hcz50_10 : wc.cell? ⟨gb105, 10, none⟩ = some (.int .i64 a0_10) := (blk_cell BK105.out 10).trans rfl
              have hcz50_11 : wc.cell? ⟨gb105, 11, none⟩ = some (.int .i64 a0_11) := (blk_cell BK105.out 11).trans rfl
              have hcz50_12 : wc.cell? ⟨gb105, 12, none⟩ = some (.int .u32 (Go.bits .and .u32 a0_12 1)) := (blk_cell BK105.out 12).trans rfl
              have hcz50_13 : wc.cell? ⟨gb105, 13, none⟩ = some (.int .u32 (Go.bits .and .u32 a0_13 1)) := (blk_cell BK105.out 13).trans rfl
              have hcz50_14 : wc.cell? ⟨gb105, 14, none⟩ = some (.string a0_14) := (blk_cell BK105.out 14).trans rfl
              have hcz50_15 : wc.cell? ⟨gb105, 15, none⟩ = some (.string a0_15) := (blk_cell BK105.out 15).trans rfl
              have hfz50_0 := blk_frozen BK105.out 0
              have hfz50_1 := blk_frozen BK105.out 1
              have hfz50_2 := blk_frozen BK105.out 2
              have hfz50_3 := blk_frozen BK105.out 3
              have hfz50_4 := blk_frozen BK105.out 4
              have hfz50_5 := blk_frozen BK105.out 5
              have hfz50_6 := blk_frozen BK105.out 6
              have hfz50_7 := blk_frozen BK105.out 7
              have hfz50_8 := blk_frozen BK105.out 8
              have hfz50_9 := blk_frozen BK105.out 9
              have hfz50_10 := blk_frozen BK105.out 10
              have hfz50_11 := blk_frozen BK105.out 11
              have hfz50_12 := blk_frozen BK105.out 12
              have hfz50_13 := blk_frozen BK105.out 13
              have hfz50_14 := blk_frozen BK105.out 14
              have hfz50_15 := blk_frozen BK105.out 15
              go_wp2
              go_meet
              case rel => exact ⟨_, (((Go.bits .and .u32 a0_2 1) == (Go.bits .and .u32 a2 1))), (by first | rfl | (simp; done) | (simp [*]; done)), H', ⟨by have := HJ3.out; first | omega | exact Nat.le_refl _⟩, ⟨by (with_reducible repeat (first | refine blk_drewN ?_ _ | refine blk_drew ?_ | refine blk_alloc ?_ _)); exact BK104.out⟩, ⟨by (with_reducible repeat (first | refine blk_drewN ?_ _ | refine blk_drew ?_ | refine blk_alloc ?_ _)); exact BK105.out⟩, ⟨by repeat (first | (with_reducible first | exact HB.out | apply below_alloc | apply pw_below_drewN | apply below_drew1 | refine below_set ?_ GE104.out | refine below_set ?_ GE105.out) | exact HB.out)⟩⟩
          case rest => as_aux_lemma =>
            clear HC45
            try clear c1
            try clear c2
            try clear p2
            try clear c3
            try clear c4
            try clear c8
            try clear c10
            try clear c16
            try clear c16b0
            try clear c16b1
            try clear c17
            try clear c17b0
            try clear c17b1
            try clear c18
            try clear c20
            try clear c22
            try clear c24
            try clear c26
            try clear c29
            try clear c33
            try clear c33b0
            try clear c33b1
            try clear c35
            try clear c37
            try clear c42
            try clear c46
            try clear c48
            try clear c48b0
            try clear c48b1
            try clear c49
            try clear hcz19_0
            try clear hcz19_1
            try clear hcz19_10
            try clear hcz19_11
            try clear hcz19_12
            try clear hcz19_13
            try clear hcz19_14
            try clear hcz19_15
            try clear hcz19_2
            try clear hcz19_3
            try clear hcz19_4
            try clear hcz19_5
            try clear hcz19_6
            try clear hcz19_7
            try clear hcz19_8
            try clear hcz19_9
            try clear hcz21_0
            try clear hcz21_1
            try clear hcz21_10
            try clear hcz21_11
            try clear hcz21_12
            try clear hcz21_13
            try clear hcz21_14
            try clear hcz21_15
            try clear hcz21_2
            try clear hcz21_3
            try clear hcz21_4
            try clear hcz21_5
            try clear hcz21_6
            try clear hcz21_7
            try clear hcz21_8
            try clear hcz21_9
            try clear hcz23_0
            try clear hcz23_1
            try clear hcz23_10
            try clear hcz23_11
            try clear hcz23_12
            try clear hcz23_13
            try clear hcz23_14
            try clear hcz23_15
            try clear hcz23_2
            try clear hcz23_3
            try clear hcz23_4
            try clear hcz23_5
            try clear hcz23_6
            try clear hcz23_7
            try clear hcz23_8
            try clear hcz23_9
            try clear hcz30_0
            try clear hcz30_1
            try clear hcz30_10
            try clear hcz30_11
            try clear hcz30_12
            try clear hcz30_13
            try clear hcz30_14
            try clear hcz30_15
            try clear hcz30_2
            try clear hcz30_3
            try clear hcz30_4
            try clear hcz30_5
            try clear hcz30_6
            try clear hcz30_7
            try clear hcz30_8
            try clear hcz30_9
            try clear hcz38_0
            try clear hcz38_1
            try clear hcz38_10
            try clear hcz38_11
            try clear hcz38_12
            try clear hcz38_13
            try clear hcz38_14
            try clear hcz38_15
            try clear hcz38_2
            try clear hcz38_3
            try clear hcz38_4
            try clear hcz38_5
            try clear hcz38_6
            try clear hcz38_7
            try clear hcz38_8
            try clear hcz38_9
            try clear hcz40_0
            try clear hcz40_1
            try clear hcz40_10
            try clear hcz40_11
            try clear hcz40_12
            try clear hcz40_13
            try clear hcz40_14
            try clear hcz40_15
            try clear hcz40_2
            try clear hcz40_3
            try clear hcz40_4
            try clear hcz40_5
            try clear hcz40_6
            try clear hcz40_7
            try clear hcz40_8
            try clear hcz40_9
            try clear hcz43_0
            try clear hcz43_1
            try clear hcz43_10
            try clear hcz43_11
            try clear hcz43_12
            try clear hcz43_13
            try clear hcz43_14
            try clear hcz43_15
            try clear hcz43_2
            try clear hcz43_3
            try clear hcz43_4
            try clear hcz43_5
            try clear hcz43_6
            try clear hcz43_7
            try clear hcz43_8
            try clear hcz43_9
            try clear hcz47_0
            try clear hcz47_1
            try clear hcz47_10
            try clear hcz47_11
            try clear hcz47_12
            try clear hcz47_13
            try clear hcz47_14
            try clear hcz47_15
            try clear hcz47_2
            try clear hcz47_3
            try clear hcz47_4
            try clear hcz47_5
            try clear hcz47_6
            try clear hcz47_7
            try clear hcz47_8
            try clear hcz47_9
            try clear hcz50_0
            try clear hcz50_1
            try clear hcz50_10
            try clear hcz50_11
            try clear hcz50_12
            try clear hcz50_13
            try clear hcz50_14
            try clear hcz50_15
            try clear hcz50_2
            try clear hcz50_3
            try clear hcz50_4
            try clear hcz50_5
            try clear hcz50_6
            try clear hcz50_7
            try clear hcz50_8
            try clear hcz50_9
            try clear hcz6_0
            try clear hcz6_1
            try clear hcz6_10
            try clear hcz6_11
            try clear hcz6_12
            try clear hcz6_13
            try clear hcz6_14
            try clear hcz6_15
            try clear hcz6_2
            try clear hcz6_3
            try clear hcz6_4
            try clear hcz6_5
            try clear hcz6_6
            try clear hcz6_7
            try clear hcz6_8
            try clear hcz6_9
            try clear hcz9_0
            try clear hcz9_1
            try clear hcz9_10
            try clear hcz9_11
            try clear hcz9_12
            try clear hcz9_13
            try clear hcz9_14
            try clear hcz9_15
            try clear hcz9_2
            try clear hcz9_3
            try clear hcz9_4
            try clear hcz9_5
            try clear hcz9_6
            try clear hcz9_7
            try clear hcz9_8
            try clear hcz9_9
            try clear hfz19_0
            try clear hfz19_1
            try clear hfz19_10
            try clear hfz19_11
            try clear hfz19_12
            try clear hfz19_13
            try clear hfz19_14
            try clear hfz19_15
            try clear hfz19_2
            try clear hfz19_3
            try clear hfz19_4
            try clear hfz19_5
            try clear hfz19_6
            try clear hfz19_7
            try clear hfz19_8
            try clear hfz19_9
            try clear hfz21_0
            try clear hfz21_1
            try clear hfz21_10
            try clear hfz21_11
            try clear hfz21_12
            try clear hfz21_13
            try clear hfz21_14
            try clear hfz21_15
            try clear hfz21_2
            try clear hfz21_3
            try clear hfz21_4
            try clear hfz21_5
            try clear hfz21_6
            try clear hfz21_7
            try clear hfz21_8
            try clear hfz21_9
            try clear hfz23_0
            try clear hfz23_1
            try clear hfz23_10
            try clear hfz23_11
            try clear hfz23_12
            try clear hfz23_13
            try clear hfz23_14
            try clear hfz23_15
            try clear hfz23_2
            try clear hfz23_3
            try clear hfz23_4
            try clear hfz23_5
            try clear hfz23_6
            try clear hfz23_7
            try clear hfz23_8
            try clear hfz23_9
            try clear hfz30_0
            try clear hfz30_1
            try clear hfz30_10
            try clear hfz30_11
            try clear hfz30_12
            try clear hfz30_13
            try clear hfz30_14
            try clear hfz30_15
            try clear hfz30_2
            try clear hfz30_3
            try clear hfz30_4
            try clear hfz30_5
            try clear hfz30_6
            try clear hfz30_7
            try clear hfz30_8
            try clear hfz30_9
            try clear hfz38_0
            try clear hfz38_1
            try clear hfz38_10
            try clear hfz38_11
            try clear hfz38_12
            try clear hfz38_13
            try clear hfz38_14
            try clear hfz38_15
            try clear hfz38_2
            try clear hfz38_3
            try clear hfz38_4
            try clear hfz38_5
            try clear hfz38_6
            try clear hfz38_7
            try clear hfz38_8
            try clear hfz38_9
            try clear hfz40_0
            try clear hfz40_1
            try clear hfz40_10
            try clear hfz40_11
            try clear hfz40_12
            try clear hfz40_13
            try clear hfz40_14
            try clear hfz40_15
            try clear hfz40_2
            try clear hfz40_3
            try clear hfz40_4
            try clear hfz40_5
            try clear hfz40_6
            try clear hfz40_7
            try clear hfz40_8
            try clear hfz40_9
            try clear hfz43_0
            try clear hfz43_1
            try clear hfz43_10
            try clear hfz43_11
            try clear hfz43_12
            try clear hfz43_13
            try clear hfz43_14
            try clear hfz43_15
            try clear hfz43_2
            try clear hfz43_3
            try clear hfz43_4
            try clear hfz43_5
            try clear hfz43_6
            try clear hfz43_7
            try clear hfz43_8
            try clear hfz43_9
            try clear hfz47_0
            try clear hfz47_1
            try clear hfz47_10
            try clear hfz47_11
            try clear hfz47_12
            try clear hfz47_13
            try clear hfz47_14
            try clear hfz47_15
            try clear hfz47_2
            try clear hfz47_3
            try clear hfz47_4
            try clear hfz47_5
            try clear hfz47_6
            try clear hfz47_7
            try clear hfz47_8
            try clear hfz47_9
            try clear hfz50_0
            try clear hfz50_1
            try clear hfz50_10
            try clear hfz50_11
            try clear hfz50_12
            try clear hfz50_13
            try clear hfz50_14
            try clear hfz50_15
            try clear hfz50_2
            try clear hfz50_3
            try clear hfz50_4
            try clear hfz50_5
            try clear hfz50_6
            try clear hfz50_7
            try clear hfz50_8
            try clear hfz50_9
            try clear hfz6_0
            try clear hfz6_1
            try clear hfz6_10
            try clear hfz6_11
            try clear hfz6_12
            try clear hfz6_13
            try clear hfz6_14
            try clear hfz6_15
            try clear hfz6_2
            try clear hfz6_3
            try clear hfz6_4
            try clear hfz6_5
            try clear hfz6_6
            try clear hfz6_7
            try clear hfz6_8
            try clear hfz6_9
            try clear hfz9_0
            try clear hfz9_1
            try clear hfz9_10
            try clear hfz9_11
            try clear hfz9_12
            try clear hfz9_13
            try clear hfz9_14
            try clear hfz9_15
            try clear hfz9_2
            try clear hfz9_3
            try clear hfz9_4
            try clear hfz9_5
            try clear hfz9_6
            try clear hfz9_7
            try clear hfz9_8
            try clear hfz9_9
            try clear p2
            obtain ⟨kq, x52_44, rfl, HA, HJ44, BK104, BK105, HB⟩ := hcut
            cases kq with
            | zero => exact absurd HA.out (by simp [crosswaylaw23_ClashOf.j1])
            | succ kj44 =>
              have H := HA.out
              clear HA
              simp only [crosswaylaw23_ClashOf.j1] at H
              by_cases c51 : x52_44 = true
              · subst c51
                have H1 : (if (Go.bits .and .u32 a0_12 1) = 0 then (crosswaylaw23_ClashOf.j2 kj44 (Go.bits .and .u32 a1 1) (Go.bits .and .u32 a2 1) 0 ((Go.bits .and .u32 a0_13 1) == 0) a0_0 (Go.bits .and .u32 a0_1 1) (Go.bits .and .u32 a0_2 1) a0_3 a0_4 a0_5 a0_6 a0_7 a0_8 a0_9 a0_10 a0_11 (Go.bits .and .u32 a0_12 1) (Go.bits .and .u32 a0_13 1) a0_14 a0_15) else (crosswaylaw23_ClashOf.j2 kj44 (Go.bits .and .u32 a1 1) (Go.bits .and .u32 a2 1) 0 false a0_0 (Go.bits .and .u32 a0_1 1) (Go.bits .and .u32 a0_2 1) a0_3 a0_4 a0_5 a0_6 a0_7 a0_8 a0_9 a0_10 a0_11 (Go.bits .and .u32 a0_12 1) (Go.bits .and .u32 a0_13 1) a0_14 a0_15)) = some r := by rw [if_pos rfl] at H; exact H
                clear H
                have H := H1
                clear H1
                have HC52 := Aside0.mk H
                clear H
                go_upto_region 10 with (fail)
                go_cut [68] (fun v68 wc => ∃ (kq : Nat) (x68_51 : Bool), v68 = .bool x68_51 ∧ Aside0 (crosswaylaw23_ClashOf.j2 kq (Go.bits .and .u32 a1 1) (Go.bits .and .u32 a2 1) 0 x68_51 a0_0 (Go.bits .and .u32 a0_1 1) (Go.bits .and .u32 a0_2 1) a0_3 a0_4 a0_5 a0_6 a0_7 a0_8 a0_9 a0_10 a0_11 (Go.bits .and .u32 a0_12 1) (Go.bits .and .u32 a0_13 1) a0_14 a0_15 = some r) ∧ Aside0 (kq ≤ kj44) ∧ Aside0 (wc.heap[gb104]? = some (.cells #[.int .i64 a0_0, .int .u32 a0_1, .int .u32 a0_2, .int .u32 a0_3, .int .u32 a0_4, .int .u32 a0_5, .int .u32 a0_6, .int .i64 a0_7, .int .i64 a0_8, .int .u32 a0_9, .int .i64 a0_10, .int .i64 a0_11, .int .u32 a0_12, .int .u32 a0_13, .string a0_14, .string a0_15] 45 (0, 0))) ∧ Aside0 (wc.heap[gb105]? = some (.cells #[.int .i64 a0_0, .int .u32 (Go.bits .and .u32 a0_1 1), .int .u32 (Go.bits .and .u32 a0_2 1), .int .u32 a0_3, .int .u32 a0_4, .int .u32 a0_5, .int .u32 a0_6, .int .i64 a0_7, .int .i64 a0_8, .int .u32 a0_9, .int .i64 a0_10, .int .i64 a0_11, .int .u32 (Go.bits .and .u32 a0_12 1), .int .u32 (Go.bits .and .u32 a0_13 1), .string a0_14, .string a0_15] 45 (0, 0))) ∧ Aside0 (Below w.heap.size w wc))
                case first => as_aux_lemma =>
                  have H := HC52.out
                  clear HC52
                  by_cases c53 : (Go.bits .and .u32 a0_12 1) = 0
                  · rw [if_pos c53] at H
                    have c53b0 : ((Go.bits .and .u32 a0_12 1) == 0) = true := beq_iff_eq.mpr c53
                    have c53b1 : ((Go.bits .and .u32 a0_12 1) != 0) = false := bne_eq_false_iff_eq.mpr c53
                    clear c53
                    (first | rw [c53b0] | (simp only [i64_w, i32_w]; rw [c53b0]) | skip)
                    have H' := Aside0.mk H
                    clear H
                    have hnb54 := NB105_104.out
                    have hnc54 := NB104_105.out
                    have hcz55_0 : wc.cell? ⟨gb105, 0, none⟩ = some (.int .i64 a0_0) := (blk_cell BK105.out 0).trans rfl
                    have hcz55_1 : wc.cell? ⟨gb105, 1, none⟩ = some (.int .u32 (Go.bits .and .u32 a0_1 1)) := (blk_cell BK105.out 1).trans rfl
                    have hcz55_2 : wc.cell? ⟨gb105, 2, none⟩ = some (.int .u32 (Go.bits .and .u32 a0_2 1)) := (blk_cell BK105.out 2).trans rfl
                    have hcz55_3 : wc.cell? ⟨gb105, 3, none⟩ = some (.int .u32 a0_3) := (blk_cell BK105.out 3).trans rfl
                    have hcz55_4 : wc.cell? ⟨gb105, 4, none⟩ = some (.int .u32 a0_4) := (blk_cell BK105.out 4).trans rfl
                    have hcz55_5 : wc.cell? ⟨gb105, 5, none⟩ = some (.int .u32 a0_5) := (blk_cell BK105.out 5).trans rfl
                    have hcz55_6 : wc.cell? ⟨gb105, 6, none⟩ = some (.int .u32 a0_6) := (blk_cell BK105.out 6).trans rfl
                    have hcz55_7 : wc.cell? ⟨gb105, 7, none⟩ = some (.int .i64 a0_7) := (blk_cell BK105.out 7).trans rfl
                    have hcz55_8 : wc.cell? ⟨gb105, 8, none⟩ = some (.int .i64 a0_8) := (blk_cell BK105.out 8).trans rfl
                    have hcz55_9 : wc.cell? ⟨gb105, 9, none⟩ = some (.int .u32 a0_9) := (blk_cell BK105.out 9).trans rfl
                    have hcz55_10 : wc.cell? ⟨gb105, 10, none⟩ = some (.int .i64 a0_10) := (blk_cell BK105.out 10).trans rfl
                    have hcz55_11 : wc.cell? ⟨gb105, 11, none⟩ = some (.int .i64 a0_11) := (blk_cell BK105.out 11).trans rfl
                    have hcz55_12 : wc.cell? ⟨gb105, 12, none⟩ = some (.int .u32 (Go.bits .and .u32 a0_12 1)) := (blk_cell BK105.out 12).trans rfl
                    have hcz55_13 : wc.cell? ⟨gb105, 13, none⟩ = some (.int .u32 (Go.bits .and .u32 a0_13 1)) := (blk_cell BK105.out 13).trans rfl
                    have hcz55_14 : wc.cell? ⟨gb105, 14, none⟩ = some (.string a0_14) := (blk_cell BK105.out 14).trans rfl
                    have hcz55_15 : wc.cell? ⟨gb105, 15, none⟩ = some (.string a0_15) := (blk_cell BK105.out 15).trans rfl
                    have hfz55_0 := blk_frozen BK105.out 0
                    have hfz55_1 := blk_frozen BK105.out 1
                    have hfz55_2 := blk_frozen BK105.out 2
                    have hfz55_3 := blk_frozen BK105.out 3
                    have hfz55_4 := blk_frozen BK105.out 4
                    have hfz55_5 := blk_frozen BK105.out 5
                    have hfz55_6 := blk_frozen BK105.out 6
                    have hfz55_7 := blk_frozen BK105.out 7
                    have hfz55_8 := blk_frozen BK105.out 8
                    have hfz55_9 := blk_frozen BK105.out 9
                    have hfz55_10 := blk_frozen BK105.out 10
                    have hfz55_11 := blk_frozen BK105.out 11
                    have hfz55_12 := blk_frozen BK105.out 12
                    have hfz55_13 := blk_frozen BK105.out 13
                    have hfz55_14 := blk_frozen BK105.out 14
                    have hfz55_15 := blk_frozen BK105.out 15
                    go_wp2
                    go_meet
                    case rel => exact ⟨_, (((Go.bits .and .u32 a0_13 1) == 0)), (by first | rfl | (simp; done) | (simp [*]; done)), H', ⟨by have := HJ3.out; have := HJ44.out; first | omega | exact Nat.le_refl _⟩, ⟨by (with_reducible repeat (first | refine blk_drewN ?_ _ | refine blk_drew ?_ | refine blk_alloc ?_ _)); exact BK104.out⟩, ⟨by (with_reducible repeat (first | refine blk_drewN ?_ _ | refine blk_drew ?_ | refine blk_alloc ?_ _)); exact BK105.out⟩, ⟨by repeat (first | (with_reducible first | exact HB.out | apply below_alloc | apply pw_below_drewN | apply below_drew1 | refine below_set ?_ GE104.out | refine below_set ?_ GE105.out) | exact HB.out)⟩⟩
                  · rw [if_neg c53] at H
                    have c53b0 : ((Go.bits .and .u32 a0_12 1) == 0) = false := beq_eq_false_iff_ne.mpr c53
                    have c53b1 : ((Go.bits .and .u32 a0_12 1) != 0) = true := bne_iff_ne.mpr c53
                    (first | rw [c53b0] | (simp only [i64_w, i32_w]; rw [c53b0]) | skip)
                    have H' := Aside0.mk H
                    clear H
                    have hnb56 := NB105_104.out
                    have hnc56 := NB104_105.out
                    have hcz57_0 : wc.cell? ⟨gb105, 0, none⟩ = some (.int .i64 a0_0) := (blk_cell BK105.out 0).trans rfl
                    have hcz57_1 : wc.cell? ⟨gb105, 1, none⟩ = some (.int .u32 (Go.bits .and .u32 a0_1 1)) := (blk_cell BK105.out 1).trans rfl
                    have hcz57_2 : wc.cell? ⟨gb105, 2, none⟩ = some (.int .u32 (Go.bits .and .u32 a0_2 1)) := (blk_cell BK105.out 2).trans rfl
                    have hcz57_3 : wc.cell? ⟨gb105, 3, none⟩ = some (.int .u32 a0_3) := (blk_cell BK105.out 3).trans rfl
                    have hcz57_4 : wc.cell? ⟨gb105, 4, none⟩ = some (.int .u32 a0_4) := (blk_cell BK105.out 4).trans rfl
                    have hcz57_5 : wc.cell? ⟨gb105, 5, none⟩ = some (.int .u32 a0_5) := (blk_cell BK105.out 5).trans rfl
                    have hcz57_6 : wc.cell? ⟨gb105, 6, none⟩ = some (.int .u32 a0_6) := (blk_cell BK105.out 6).trans rfl
                    have hcz57_7 : wc.cell? ⟨gb105, 7, none⟩ = some (.int .i64 a0_7) := (blk_cell BK105.out 7).trans rfl
                    have hcz57_8 : wc.cell? ⟨gb105, 8, none⟩ = some (.int .i64 a0_8) := (blk_cell BK105.out 8).trans rfl
                    have hcz57_9 : wc.cell? ⟨gb105, 9, none⟩ = some (.int .u32 a0_9) := (blk_cell BK105.out 9).trans rfl
                    have hcz57_10 : wc.cell? ⟨gb105, 10, none⟩ = some (.int .i64 a0_10) := (blk_cell BK105.out 10).trans rfl
                    have hcz57_11 : wc.cell? ⟨gb105, 11, none⟩ = some (.int .i64 a0_11) := (blk_cell BK105.out 11).trans rfl
                    have hcz57_12 : wc.cell? ⟨gb105, 12, none⟩ = some (.int .u32 (Go.bits .and .u32 a0_12 1)) := (blk_cell BK105.out 12).trans rfl
                    have hcz57_13 : wc.cell? ⟨gb105, 13, none⟩ = some (.int .u32 (Go.bits .and .u32 a0_13 1)) := (blk_cell BK105.out 13).trans rfl
                    have hcz57_14 : wc.cell? ⟨gb105, 14, none⟩ = some (.string a0_14) := (blk_cell BK105.out 14).trans rfl
                    have hcz57_15 : wc.cell? ⟨gb105, 15, none⟩ = some (.string a0_15) := (blk_cell BK105.out 15).trans rfl
                    have hfz57_0 := blk_frozen BK105.out 0
                    have hfz57_1 := blk_frozen BK105.out 1
                    have hfz57_2 := blk_frozen BK105.out 2
                    have hfz57_3 := blk_frozen BK105.out 3
                    have hfz57_4 := blk_frozen BK105.out 4
                    have hfz57_5 := blk_frozen BK105.out 5
                    have hfz57_6 := blk_frozen BK105.out 6
                    have hfz57_7 := blk_frozen BK105.out 7
                    have hfz57_8 := blk_frozen BK105.out 8
                    have hfz57_9 := blk_frozen BK105.out 9
                    have hfz57_10 := blk_frozen BK105.out 10
                    have hfz57_11 := blk_frozen BK105.out 11
                    have hfz57_12 := blk_frozen BK105.out 12
                    have hfz57_13 := blk_frozen BK105.out 13
                    have hfz57_14 := blk_frozen BK105.out 14
                    have hfz57_15 := blk_frozen BK105.out 15
                    go_wp2
                    go_meet
                    case rel => exact ⟨_, (false), (by first | rfl | (simp; done) | (simp [*]; done)), H', ⟨by have := HJ3.out; have := HJ44.out; first | omega | exact Nat.le_refl _⟩, ⟨by (with_reducible repeat (first | refine blk_drewN ?_ _ | refine blk_drew ?_ | refine blk_alloc ?_ _)); exact BK104.out⟩, ⟨by (with_reducible repeat (first | refine blk_drewN ?_ _ | refine blk_drew ?_ | refine blk_alloc ?_ _)); exact BK105.out⟩, ⟨by repeat (first | (with_reducible first | exact HB.out | apply below_alloc | apply pw_below_drewN | apply below_drew1 | refine below_set ?_ GE104.out | refine below_set ?_ GE105.out) | exact HB.out)⟩⟩
                case rest => as_aux_lemma =>
                  clear HC52
                  try clear c1
                  try clear c2
                  try clear p2
                  try clear c3
                  try clear c4
                  try clear c5
                  try clear c8
                  try clear c10
                  try clear c16
                  try clear c16b0
                  try clear c16b1
                  try clear c17
                  try clear c17b0
                  try clear c17b1
                  try clear c18
                  try clear c20
                  try clear c22
                  try clear c24
                  try clear c26
                  try clear c29
                  try clear c33
                  try clear c33b0
                  try clear c33b1
                  try clear c35
                  try clear c37
                  try clear c42
                  try clear c46
                  try clear c48
                  try clear c48b0
                  try clear c48b1
                  try clear c49
                  try clear c51
                  try clear c53
                  try clear c53b0
                  try clear c53b1
                  try clear c54
                  try clear c56
                  try clear hcz19_0
                  try clear hcz19_1
                  try clear hcz19_10
                  try clear hcz19_11
                  try clear hcz19_12
                  try clear hcz19_13
                  try clear hcz19_14
                  try clear hcz19_15
                  try clear hcz19_2
                  try clear hcz19_3
                  try clear hcz19_4
                  try clear hcz19_5
                  try clear hcz19_6
                  try clear hcz19_7
                  try clear hcz19_8
                  try clear hcz19_9
                  try clear hcz21_0
                  try clear hcz21_1
                  try clear hcz21_10
                  try clear hcz21_11
                  try clear hcz21_12
                  try clear hcz21_13
                  try clear hcz21_14
                  try clear hcz21_15
                  try clear hcz21_2
                  try clear hcz21_3
                  try clear hcz21_4
                  try clear hcz21_5
                  try clear hcz21_6
                  try clear hcz21_7
                  try clear hcz21_8
                  try clear hcz21_9
                  try clear hcz23_0
                  try clear hcz23_1
                  try clear hcz23_10
                  try clear hcz23_11
                  try clear hcz23_12
                  try clear hcz23_13
                  try clear hcz23_14
                  try clear hcz23_15
                  try clear hcz23_2
                  try clear hcz23_3
                  try clear hcz23_4
                  try clear hcz23_5
                  try clear hcz23_6
                  try clear hcz23_7
                  try clear hcz23_8
                  try clear hcz23_9
                  try clear hcz30_0
                  try clear hcz30_1
                  try clear hcz30_10
                  try clear hcz30_11
                  try clear hcz30_12
                  try clear hcz30_13
                  try clear hcz30_14
                  try clear hcz30_15
                  try clear hcz30_2
                  try clear hcz30_3
                  try clear hcz30_4
                  try clear hcz30_5
                  try clear hcz30_6
                  try clear hcz30_7
                  try clear hcz30_8
                  try clear hcz30_9
                  try clear hcz38_0
                  try clear hcz38_1
                  try clear hcz38_10
                  try clear hcz38_11
                  try clear hcz38_12
                  try clear hcz38_13
                  try clear hcz38_14
                  try clear hcz38_15
                  try clear hcz38_2
                  try clear hcz38_3
                  try clear hcz38_4
                  try clear hcz38_5
                  try clear hcz38_6
                  try clear hcz38_7
                  try clear hcz38_8
                  try clear hcz38_9
                  try clear hcz40_0
                  try clear hcz40_1
                  try clear hcz40_10
                  try clear hcz40_11
                  try clear hcz40_12
                  try clear hcz40_13
                  try clear hcz40_14
                  try clear hcz40_15
                  try clear hcz40_2
                  try clear hcz40_3
                  try clear hcz40_4
                  try clear hcz40_5
                  try clear hcz40_6
                  try clear hcz40_7
                  try clear hcz40_8
                  try clear hcz40_9
                  try clear hcz43_0
                  try clear hcz43_1
                  try clear hcz43_10
                  try clear hcz43_11
                  try clear hcz43_12
                  try clear hcz43_13
                  try clear hcz43_14
                  try clear hcz43_15
                  try clear hcz43_2
                  try clear hcz43_3
                  try clear hcz43_4
                  try clear hcz43_5
                  try clear hcz43_6
                  try clear hcz43_7
                  try clear hcz43_8
                  try clear hcz43_9
                  try clear hcz47_0
                  try clear hcz47_1
                  try clear hcz47_10
                  try clear hcz47_11
                  try clear hcz47_12
                  try clear hcz47_13
                  try clear hcz47_14
                  try clear hcz47_15
                  try clear hcz47_2
                  try clear hcz47_3
                  try clear hcz47_4
                  try clear hcz47_5
                  try clear hcz47_6
                  try clear hcz47_7
                  try clear hcz47_8
                  try clear hcz47_9
                  try clear hcz50_0
                  try clear hcz50_1
                  try clear hcz50_10
                  try clear hcz50_11
                  try clear hcz50_12
                  try clear hcz50_13
                  try clear hcz50_14
                  try clear hcz50_15
                  try clear hcz50_2
                  try clear hcz50_3
                  try clear hcz50_4
                  try clear hcz50_5
                  try clear hcz50_6
                  try clear hcz50_7
                  try clear hcz50_8
                  try clear hcz50_9
                  try clear hcz55_0
                  try clear hcz55_1
                  try clear hcz55_10
                  try clear hcz55_11
                  try clear hcz55_12
                  try clear hcz55_13
                  try clear hcz55_14
                  try clear hcz55_15
                  try clear hcz55_2
                  try clear hcz55_3
                  try clear hcz55_4
                  try clear hcz55_5
                  try clear hcz55_6
                  try clear hcz55_7
                  try clear hcz55_8
                  try clear hcz55_9
                  try clear hcz57_0
                  try clear hcz57_1
                  try clear hcz57_10
                  try clear hcz57_11
                  try clear hcz57_12
                  try clear hcz57_13
                  try clear hcz57_14
                  try clear hcz57_15
                  try clear hcz57_2
                  try clear hcz57_3
                  try clear hcz57_4
                  try clear hcz57_5
                  try clear hcz57_6
                  try clear hcz57_7
                  try clear hcz57_8
                  try clear hcz57_9
                  try clear hcz6_0
                  try clear hcz6_1
                  try clear hcz6_10
                  try clear hcz6_11
                  try clear hcz6_12
                  try clear hcz6_13
                  try clear hcz6_14
                  try clear hcz6_15
                  try clear hcz6_2
                  try clear hcz6_3
                  try clear hcz6_4
                  try clear hcz6_5
                  try clear hcz6_6
                  try clear hcz6_7
                  try clear hcz6_8
                  try clear hcz6_9
                  try clear hcz9_0
                  try clear hcz9_1
                  try clear hcz9_10
                  try clear hcz9_11
                  try clear hcz9_12
                  try clear hcz9_13
                  try clear hcz9_14
                  try clear hcz9_15
                  try clear hcz9_2
                  try clear hcz9_3
                  try clear hcz9_4
                  try clear hcz9_5
                  try clear hcz9_6
                  try clear hcz9_7
                  try clear hcz9_8
                  try clear hcz9_9
                  try clear hfz19_0
                  try clear hfz19_1
                  try clear hfz19_10
                  try clear hfz19_11
                  try clear hfz19_12
                  try clear hfz19_13
                  try clear hfz19_14
                  try clear hfz19_15
                  try clear hfz19_2
                  try clear hfz19_3
                  try clear hfz19_4
                  try clear hfz19_5
                  try clear hfz19_6
                  try clear hfz19_7
                  try clear hfz19_8
                  try clear hfz19_9
                  try clear hfz21_0
                  try clear hfz21_1
                  try clear hfz21_10
                  try clear hfz21_11
                  try clear hfz21_12
                  try clear hfz21_13
                  try clear hfz21_14
                  try clear hfz21_15
                  try clear hfz21_2
                  try clear hfz21_3
                  try clear hfz21_4
                  try clear hfz21_5
                  try clear hfz21_6
                  try clear hfz21_7
                  try clear hfz21_8
                  try clear hfz21_9
                  try clear hfz23_0
                  try clear hfz23_1
                  try clear hfz23_10
                  try clear hfz23_11
                  try clear hfz23_12
                  try clear hfz23_13
                  try clear hfz23_14
                  try clear hfz23_15
                  try clear hfz23_2
                  try clear hfz23_3
                  try clear hfz23_4
                  try clear hfz23_5
                  try clear hfz23_6
                  try clear hfz23_7
                  try clear hfz23_8
                  try clear hfz23_9
                  try clear hfz30_0
                  try clear hfz30_1
                  try clear hfz30_10
                  try clear hfz30_11
                  try clear hfz30_12
                  try clear hfz30_13
                  try clear hfz30_14
                  try clear hfz30_15
                  try clear hfz30_2
                  try clear hfz30_3
                  try clear hfz30_4
                  try clear hfz30_5
                  try clear hfz30_6
                  try clear hfz30_7
                  try clear hfz30_8
                  try clear hfz30_9
                  try clear hfz38_0
                  try clear hfz38_1
                  try clear hfz38_10
                  try clear hfz38_11
                  try clear hfz38_12
                  try clear hfz38_13
                  try clear hfz38_14
                  try clear hfz38_15
                  try clear hfz38_2
                  try clear hfz38_3
                  try clear hfz38_4
                  try clear hfz38_5
                  try clear hfz38_6
                  try clear hfz38_7
                  try clear hfz38_8
                  try clear hfz38_9
                  try clear hfz40_0
                  try clear hfz40_1
                  try clear hfz40_10
                  try clear hfz40_11
                  try clear hfz40_12
                  try clear hfz40_13
                  try clear hfz40_14
                  try clear hfz40_15
                  try clear hfz40_2
                  try clear hfz40_3
                  try clear hfz40_4
                  try clear hfz40_5
                  try clear hfz40_6
                  try clear hfz40_7
                  try clear hfz40_8
                  try clear hfz40_9
                  try clear hfz43_0
                  try clear hfz43_1
                  try clear hfz43_10
                  try clear hfz43_11
                  try clear hfz43_12
                  try clear hfz43_13
                  try clear hfz43_14
                  try clear hfz43_15
                  try clear hfz43_2
                  try clear hfz43_3
                  try clear hfz43_4
                  try clear hfz43_5
                  try clear hfz43_6
                  try clear hfz43_7
                  try clear hfz43_8
                  try clear hfz43_9
                  try clear hfz47_0
                  try clear hfz47_1
                  try clear hfz47_10
                  try clear hfz47_11
                  try clear hfz47_12
                  try clear hfz47_13
                  try clear hfz47_14
                  try clear hfz47_15
                  try clear hfz47_2
                  try clear hfz47_3
                  try clear hfz47_4
                  try clear hfz47_5
                  try clear hfz47_6
                  try clear hfz47_7
                  try clear hfz47_8
                  try clear hfz47_9
                  try clear hfz50_0
                  try clear hfz50_1
                  try clear hfz50_10
                  try clear hfz50_11
                  try clear hfz50_12
                  try clear hfz50_13
                  try clear hfz50_14
                  try clear hfz50_15
                  try clear hfz50_2
                  try clear hfz50_3
                  try clear hfz50_4
                  try clear hfz50_5
                  try clear hfz50_6
                  try clear hfz50_7
                  try clear hfz50_8
                  try clear hfz50_9
                  try clear hfz55_0
                  try clear hfz55_1
                  try clear hfz55_10
                  try clear hfz55_11
                  try clear hfz55_12
                  try clear hfz55_13
                  try clear hfz55_14
                  try clear hfz55_15
                  try clear hfz55_2
                  try clear hfz55_3
                  try clear hfz55_4
                  try clear hfz55_5
                  try clear hfz55_6
                  try clear hfz55_7
                  try clear hfz55_8
                  try clear hfz55_9
                  try clear hfz57_0
                  try clear hfz57_1
                  try clear hfz57_10
                  try clear hfz57_11
                  try clear hfz57_12
                  try clear hfz57_13
                  try clear hfz57_14
                  try clear hfz57_15
                  try clear hfz57_2
                  try clear hfz57_3
                  try clear hfz57_4
                  try clear hfz57_5
                  try clear hfz57_6
                  try clear hfz57_7
                  try clear hfz57_8
                  try clear hfz57_9
                  try clear hfz6_0
                  try clear hfz6_1
                  try clear hfz6_10
                  try clear hfz6_11
                  try clear hfz6_12
                  try clear hfz6_13
                  try clear hfz6_14
                  try clear hfz6_15
                  try clear hfz6_2
                  try clear hfz6_3
                  try clear hfz6_4
                  try clear hfz6_5
                  try clear hfz6_6
                  try clear hfz6_7
                  try clear hfz6_8
                  try clear hfz6_9
                  try clear hfz9_0
                  try clear hfz9_1
                  try clear hfz9_10
                  try clear hfz9_11
                  try clear hfz9_12
                  try clear hfz9_13
                  try clear hfz9_14
                  try clear hfz9_15
                  try clear hfz9_2
                  try clear hfz9_3
                  try clear hfz9_4
                  try clear hfz9_5
                  try clear hfz9_6
                  try clear hfz9_7
                  try clear hfz9_8
                  try clear hfz9_9
                  try clear p2
                  obtain ⟨kq, x68_51, rfl, HA, HJ51, BK104, BK105, HB⟩ := hcut
                  cases kq with
                  | zero => exact absurd HA.out (by simp [crosswaylaw23_ClashOf.j2])
                  | succ kj51 =>
                    have H := HA.out
                    clear HA
                    simp only [crosswaylaw23_ClashOf.j2] at H
                    by_cases c58 : x68_51 = true
                    · subst c58
                      have H1 : ((crosswaylaw23_awake.f kj51).bind fun t110 => (if t110 = true then ((clash_Of.f kj51 a0_0 (Go.bits .and .u32 a0_1 1) (Go.bits .and .u32 a0_2 1) a0_3 a0_4 a0_5 a0_6 a0_7 a0_8 a0_9 a0_10 a0_11 (Go.bits .and .u32 a0_12 1) (Go.bits .and .u32 a0_13 1) a0_14 a0_15 (Go.bits .and .u32 a1 1) (Go.bits .and .u32 a2 1)).bind fun t111 => (some (t111 == 3))) else (some false))) = some r := by rw [if_pos rfl] at H; exact H
                      clear H
                      have H := H1
                      clear H1
                      replace H := Option.bind_eq_some_iff.mp H
                      obtain ⟨t110, A590, H⟩ := H
                      replace H : (if t110 = true then ((clash_Of.f kj51 a0_0 (Go.bits .and .u32 a0_1 1) (Go.bits .and .u32 a0_2 1) a0_3 a0_4 a0_5 a0_6 a0_7 a0_8 a0_9 a0_10 a0_11 (Go.bits .and .u32 a0_12 1) (Go.bits .and .u32 a0_13 1) a0_14 a0_15 (Go.bits .and .u32 a1 1) (Go.bits .and .u32 a2 1)).bind fun t111 => (some (t111 == 3))) else (some false)) = some r := H
                      have A59 := Aside0.mk A590
                      clear A590
                      by_cases c60 : t110 = true
                      · subst c60
                        have H1 : ((clash_Of.f kj51 a0_0 (Go.bits .and .u32 a0_1 1) (Go.bits .and .u32 a0_2 1) a0_3 a0_4 a0_5 a0_6 a0_7 a0_8 a0_9 a0_10 a0_11 (Go.bits .and .u32 a0_12 1) (Go.bits .and .u32 a0_13 1) a0_14 a0_15 (Go.bits .and .u32 a1 1) (Go.bits .and .u32 a2 1)).bind fun t111 => (some (t111 == 3))) = some r := by rw [if_pos rfl] at H; exact H
                        clear H
                        have H := H1
                        clear H1
                        replace H := Option.bind_eq_some_iff.mp H
                        obtain ⟨t111, A610, H⟩ := H
                        replace H : (some (t111 == 3)) = some r := H
                        have A61 := Aside0.mk A610
                        clear A610
                        obtain rfl := Option.some.inj H
                        go_wp2_with (first | ((with_reducible refine gate_callee (f := 29) rfl ?_); refine goesL_ (some 85) rfl rfl Try.func29 (by kernel_rfl) rfl #[] rfl (by (try simp only [List.map_toArray, List.map_cons, List.map_nil]); first | done | rfl | (simp only [List.length_drop, List.length_take]; rfl)) ?_; (with_reducible refine (crosswaylaw23_awake.calls kj51  true _ A59.out).mono ?_); rintro e w62 ⟨rfl, hb⟩; refine ⟨_, rfl, ?_⟩; have n0_ := Aside0.mk (blk_below (g := gb104) (o := .cells #[.int .i64 a0_0, .int .u32 a0_1, .int .u32 a0_2, .int .u32 a0_3, .int .u32 a0_4, .int .u32 a0_5, .int .u32 a0_6, .int .i64 a0_7, .int .i64 a0_8, .int .u32 a0_9, .int .i64 a0_10, .int .i64 a0_11, .int .u32 a0_12, .int .u32 a0_13, .string a0_14, .string a0_15] 45 (0, 0)) (by (with_reducible repeat (first | refine blk_drewN ?_ _ | refine blk_drew ?_ | refine blk_alloc ?_ _)); exact BK104.out) hb); have n1_ := Aside0.mk (blk_below (g := gb105) (o := .cells #[.int .i64 a0_0, .int .u32 (Go.bits .and .u32 a0_1 1), .int .u32 (Go.bits .and .u32 a0_2 1), .int .u32 a0_3, .int .u32 a0_4, .int .u32 a0_5, .int .u32 a0_6, .int .i64 a0_7, .int .i64 a0_8, .int .u32 a0_9, .int .i64 a0_10, .int .i64 a0_11, .int .u32 (Go.bits .and .u32 a0_12 1), .int .u32 (Go.bits .and .u32 a0_13 1), .string a0_14, .string a0_15] 45 (0, 0)) (by (with_reducible repeat (first | refine blk_drewN ?_ _ | refine blk_drew ?_ | refine blk_alloc ?_ _)); exact BK105.out) hb); have n2_ := Aside0.mk (below_step (by repeat (first | (with_reducible first | exact HB.out | apply below_alloc | apply pw_below_drewN | apply below_drew1 | refine below_set ?_ GE104.out | refine below_set ?_ GE105.out) | exact HB.out)) hb); clear BK104; clear BK105; clear HB; have BK104 := n0_; have BK105 := n1_; have HB := n2_; clear n0_ n1_ n2_; (try clear hb); (try clear hb2); (try clear hk); (try clear hi); have hnb63 := NB105_104.out; have hnc63 := NB104_105.out; have hcz64_0 : w62.cell? ⟨gb105, 0, none⟩ = some (.int .i64 a0_0) := (blk_cell BK105.out 0).trans rfl; have hcz64_1 : w62.cell? ⟨gb105, 1, none⟩ = some (.int .u32 (Go.bits .and .u32 a0_1 1)) := (blk_cell BK105.out 1).trans rfl; have hcz64_2 : w62.cell? ⟨gb105, 2, none⟩ = some (.int .u32 (Go.bits .and .u32 a0_2 1)) := (blk_cell BK105.out 2).trans rfl; have hcz64_3 : w62.cell? ⟨gb105, 3, none⟩ = some (.int .u32 a0_3) := (blk_cell BK105.out 3).trans rfl; have hcz64_4 : w62.cell? ⟨gb105, 4, none⟩ = some (.int .u32 a0_4) := (blk_cell BK105.out 4).trans rfl; have hcz64_5 : w62.cell? ⟨gb105, 5, none⟩ = some (.int .u32 a0_5) := (blk_cell BK105.out 5).trans rfl; have hcz64_6 : w62.cell? ⟨gb105, 6, none⟩ = some (.int .u32 a0_6) := (blk_cell BK105.out 6).trans rfl; have hcz64_7 : w62.cell? ⟨gb105, 7, none⟩ = some (.int .i64 a0_7) := (blk_cell BK105.out 7).trans rfl; have hcz64_8 : w62.cell? ⟨gb105, 8, none⟩ = some (.int .i64 a0_8) := (blk_cell BK105.out 8).trans rfl; have hcz64_9 : w62.cell? ⟨gb105, 9, none⟩ = some (.int .u32 a0_9) := (blk_cell BK105.out 9).trans rfl; have hcz64_10 : w62.cell? ⟨gb105, 10, none⟩ = some (.int .i64 a0_10) := (blk_cell BK105.out 10).trans rfl; have hcz64_11 : w62.cell? ⟨gb105, 11, none⟩ = some (.int .i64 a0_11) := (blk_cell BK105.out 11).trans rfl; have hcz64_12 : w62.cell? ⟨gb105, 12, none⟩ = some (.int .u32 (Go.bits .and .u32 a0_12 1)) := (blk_cell BK105.out 12).trans rfl; have hcz64_13 : w62.cell? ⟨gb105, 13, none⟩ = some (.int .u32 (Go.bits .and .u32 a0_13 1)) := (blk_cell BK105.out 13).trans rfl; have hcz64_14 : w62.cell? ⟨gb105, 14, none⟩ = some (.string a0_14) := (blk_cell BK105.out 14).trans rfl; have hcz64_15 : w62.cell? ⟨gb105, 15, none⟩ = some (.string a0_15) := (blk_cell BK105.out 15).trans rfl; have hfz64_0 := blk_frozen BK105.out 0; have hfz64_1 := blk_frozen BK105.out 1; have hfz64_2 := blk_frozen BK105.out 2; have hfz64_3 := blk_frozen BK105.out 3; have hfz64_4 := blk_frozen BK105.out 4; have hfz64_5 := blk_frozen BK105.out 5; have hfz64_6 := blk_frozen BK105.out 6; have hfz64_7 := blk_frozen BK105.out 7; have hfz64_8 := blk_frozen BK105.out 8; have hfz64_9 := blk_frozen BK105.out 9; have hfz64_10 := blk_frozen BK105.out 10; have hfz64_11 := blk_frozen BK105.out 11; have hfz64_12 := blk_frozen BK105.out 12; have hfz64_13 := blk_frozen BK105.out 13; have hfz64_14 := blk_frozen BK105.out 14; have hfz64_15 := blk_frozen BK105.out 15) | (go_at_call 30; (with_reducible refine (clash_Of.calls kj51 a0_0 (Go.bits .and .u32 a0_1 1) (Go.bits .and .u32 a0_2 1) a0_3 a0_4 a0_5 a0_6 a0_7 a0_8 a0_9 a0_10 a0_11 (Go.bits .and .u32 a0_12 1) (Go.bits .and .u32 a0_13 1) a0_14 a0_15 (Go.bits .and .u32 a1 1) (Go.bits .and .u32 a2 1) t111 _ A61.out).mono ?_); rintro e w65 ⟨rfl, hb⟩; have n0_ := Aside0.mk (blk_below (g := gb104) (o := .cells #[.int .i64 a0_0, .int .u32 a0_1, .int .u32 a0_2, .int .u32 a0_3, .int .u32 a0_4, .int .u32 a0_5, .int .u32 a0_6, .int .i64 a0_7, .int .i64 a0_8, .int .u32 a0_9, .int .i64 a0_10, .int .i64 a0_11, .int .u32 a0_12, .int .u32 a0_13, .string a0_14, .string a0_15] 45 (0, 0)) (by (with_reducible repeat (first | refine blk_drewN ?_ _ | refine blk_drew ?_ | refine blk_alloc ?_ _)); exact BK104.out) hb); have n1_ := Aside0.mk (blk_below (g := gb105) (o := .cells #[.int .i64 a0_0, .int .u32 (Go.bits .and .u32 a0_1 1), .int .u32 (Go.bits .and .u32 a0_2 1), .int .u32 a0_3, .int .u32 a0_4, .int .u32 a0_5, .int .u32 a0_6, .int .i64 a0_7, .int .i64 a0_8, .int .u32 a0_9, .int .i64 a0_10, .int .i64 a0_11, .int .u32 (Go.bits .and .u32 a0_12 1), .int .u32 (Go.bits .and .u32 a0_13 1), .string a0_14, .string a0_15] 45 (0, 0)) (by (with_reducible repeat (first | refine blk_drewN ?_ _ | refine blk_drew ?_ | refine blk_alloc ?_ _)); exact BK105.out) hb); have n2_ := Aside0.mk (below_step (by repeat (first | (with_reducible first | exact HB.out | apply below_alloc | apply pw_below_drewN | apply below_drew1 | refine below_set ?_ GE104.out | refine below_set ?_ GE105.out) | exact HB.out)) hb); clear BK104; clear BK105; clear HB; have BK104 := n0_; have BK105 := n1_; have HB := n2_; clear n0_ n1_ n2_; (try clear hb); (try clear hb2); (try clear hk); (try clear hi)))
                        go_ret
                        exact ⟨by first | rfl | (simp [errW_none, errW_some] <;> rfl) | (simp [*, errW_none, errW_some] <;> rfl), by repeat (first | (with_reducible first | exact HB.out | apply below_alloc | apply pw_below_drewN | apply below_drew1 | refine below_set ?_ GE104.out | refine below_set ?_ GE105.out) | exact HB.out)⟩
                      · replace c60 := Bool.eq_false_iff.mpr c60
                        subst c60
                        have H1 : (some false) = some r := by rw [if_neg (show ¬ (false = true) by decide)] at H; exact H
                        clear H
                        have H := H1
                        clear H1
                        obtain rfl := Option.some.inj H
                        go_wp2_with (first | ((with_reducible refine gate_callee (f := 29) rfl ?_); refine goesL_ (some 85) rfl rfl Try.func29 (by kernel_rfl) rfl #[] rfl (by (try simp only [List.map_toArray, List.map_cons, List.map_nil]); first | done | rfl | (simp only [List.length_drop, List.length_take]; rfl)) ?_; (with_reducible refine (crosswaylaw23_awake.calls kj51  false _ A59.out).mono ?_); rintro e w66 ⟨rfl, hb⟩; refine ⟨_, rfl, ?_⟩; have n0_ := Aside0.mk (blk_below (g := gb104) (o := .cells #[.int .i64 a0_0, .int .u32 a0_1, .int .u32 a0_2, .int .u32 a0_3, .int .u32 a0_4, .int .u32 a0_5, .int .u32 a0_6, .int .i64 a0_7, .int .i64 a0_8, .int .u32 a0_9, .int .i64 a0_10, .int .i64 a0_11, .int .u32 a0_12, .int .u32 a0_13, .string a0_14, .string a0_15] 45 (0, 0)) (by (with_reducible repeat (first | refine blk_drewN ?_ _ | refine blk_drew ?_ | refine blk_alloc ?_ _)); exact BK104.out) hb); have n1_ := Aside0.mk (blk_below (g := gb105) (o := .cells #[.int .i64 a0_0, .int .u32 (Go.bits .and .u32 a0_1 1), .int .u32 (Go.bits .and .u32 a0_2 1), .int .u32 a0_3, .int .u32 a0_4, .int .u32 a0_5, .int .u32 a0_6, .int .i64 a0_7, .int .i64 a0_8, .int .u32 a0_9, .int .i64 a0_10, .int .i64 a0_11, .int .u32 (Go.bits .and .u32 a0_12 1), .int .u32 (Go.bits .and .u32 a0_13 1), .string a0_14, .string a0_15] 45 (0, 0)) (by (with_reducible repeat (first | refine blk_drewN ?_ _ | refine blk_drew ?_ | refine blk_alloc ?_ _)); exact BK105.out) hb); have n2_ := Aside0.mk (below_step (by repeat (first | (with_reducible first | exact HB.out | apply below_alloc | apply pw_below_drewN | apply below_drew1 | refine below_set ?_ GE104.out | refine below_set ?_ GE105.out) | exact HB.out)) hb); clear BK104; clear BK105; clear HB; have BK104 := n0_; have BK105 := n1_; have HB := n2_; clear n0_ n1_ n2_; (try clear hb); (try clear hb2); (try clear hk); (try clear hi)))
                        go_ret
                        exact ⟨by first | rfl | (simp [errW_none, errW_some] <;> rfl) | (simp [*, errW_none, errW_some] <;> rfl), by repeat (first | (with_reducible first | exact HB.out | apply below_alloc | apply pw_below_drewN | apply below_drew1 | refine below_set ?_ GE104.out | refine below_set ?_ GE105.out) | exact HB.out)⟩
                    · replace c58 := Bool.eq_false_iff.mpr c58
                      subst c58
                      have H1 : ((crosswaylaw23_awake.f kj51).bind fun t112 => (if t112 = true then ((clash_Of.f kj51 a0_0 (Go.bits .and .u32 a0_1 1) (Go.bits .and .u32 a0_2 1) a0_3 a0_4 a0_5 a0_6 a0_7 a0_8 a0_9 a0_10 a0_11 (Go.bits .and .u32 a0_12 1) (Go.bits .and .u32 a0_13 1) a0_14 a0_15 (Go.bits .and .u32 a1 1) (Go.bits .and .u32 a2 1)).bind fun t113 => (some (t113 == 0))) else (some false))) = some r := by rw [if_neg (show ¬ (false = true) by decide)] at H; exact H
                      clear H
                      have H := H1
                      clear H1
                      replace H := Option.bind_eq_some_iff.mp H
                      obtain ⟨t112, A670, H⟩ := H
                      replace H : (if t112 = true then ((clash_Of.f kj51 a0_0 (Go.bits .and .u32 a0_1 1) (Go.bits .and .u32 a0_2 1) a0_3 a0_4 a0_5 a0_6 a0_7 a0_8 a0_9 a0_10 a0_11 (Go.bits .and .u32 a0_12 1) (Go.bits .and .u32 a0_13 1) a0_14 a0_15 (Go.bits .and .u32 a1 1) (Go.bits .and .u32 a2 1)).bind fun t113 => (some (t113 == 0))) else (some false)) = some r := H
                      have A67 := Aside0.mk A670
                      clear A670
                      by_cases c68 : t112 = true
                      · subst c68
                        have H1 : ((clash_Of.f kj51 a0_0 (Go.bits .and .u32 a0_1 1) (Go.bits .and .u32 a0_2 1) a0_3 a0_4 a0_5 a0_6 a0_7 a0_8 a0_9 a0_10 a0_11 (Go.bits .and .u32 a0_12 1) (Go.bits .and .u32 a0_13 1) a0_14 a0_15 (Go.bits .and .u32 a1 1) (Go.bits .and .u32 a2 1)).bind fun t113 => (some (t113 == 0))) = some r := by rw [if_pos rfl] at H; exact H
                        clear H
                        have H := H1
                        clear H1
                        replace H := Option.bind_eq_some_iff.mp H
                        obtain ⟨t113, A690, H⟩ := H
                        replace H : (some (t113 == 0)) = some r := H
                        have A69 := Aside0.mk A690
                        clear A690
                        obtain rfl := Option.some.inj H
                        go_wp2_with (first | ((with_reducible refine gate_callee (f := 29) rfl ?_); refine goesL_ (some 85) rfl rfl Try.func29 (by kernel_rfl) rfl #[] rfl (by (try simp only [List.map_toArray, List.map_cons, List.map_nil]); first | done | rfl | (simp only [List.length_drop, List.length_take]; rfl)) ?_; (with_reducible refine (crosswaylaw23_awake.calls kj51  true _ A67.out).mono ?_); rintro e w70 ⟨rfl, hb⟩; refine ⟨_, rfl, ?_⟩; have n0_ := Aside0.mk (blk_below (g := gb104) (o := .cells #[.int .i64 a0_0, .int .u32 a0_1, .int .u32 a0_2, .int .u32 a0_3, .int .u32 a0_4, .int .u32 a0_5, .int .u32 a0_6, .int .i64 a0_7, .int .i64 a0_8, .int .u32 a0_9, .int .i64 a0_10, .int .i64 a0_11, .int .u32 a0_12, .int .u32 a0_13, .string a0_14, .string a0_15] 45 (0, 0)) (by (with_reducible repeat (first | refine blk_drewN ?_ _ | refine blk_drew ?_ | refine blk_alloc ?_ _)); exact BK104.out) hb); have n1_ := Aside0.mk (blk_below (g := gb105) (o := .cells #[.int .i64 a0_0, .int .u32 (Go.bits .and .u32 a0_1 1), .int .u32 (Go.bits .and .u32 a0_2 1), .int .u32 a0_3, .int .u32 a0_4, .int .u32 a0_5, .int .u32 a0_6, .int .i64 a0_7, .int .i64 a0_8, .int .u32 a0_9, .int .i64 a0_10, .int .i64 a0_11, .int .u32 (Go.bits .and .u32 a0_12 1), .int .u32 (Go.bits .and .u32 a0_13 1), .string a0_14, .string a0_15] 45 (0, 0)) (by (with_reducible repeat (first | refine blk_drewN ?_ _ | refine blk_drew ?_ | refine blk_alloc ?_ _)); exact BK105.out) hb); have n2_ := Aside0.mk (below_step (by repeat (first | (with_reducible first | exact HB.out | apply below_alloc | apply pw_below_drewN | apply below_drew1 | refine below_set ?_ GE104.out | refine below_set ?_ GE105.out) | exact HB.out)) hb); clear BK104; clear BK105; clear HB; have BK104 := n0_; have BK105 := n1_; have HB := n2_; clear n0_ n1_ n2_; (try clear hb); (try clear hb2); (try clear hk); (try clear hi); have hnb71 := NB105_104.out; have hnc71 := NB104_105.out; have hcz72_0 : w70.cell? ⟨gb105, 0, none⟩ = some (.int .i64 a0_0) := (blk_cell BK105.out 0).trans rfl; have hcz72_1 : w70.cell? ⟨gb105, 1, none⟩ = some (.int .u32 (Go.bits .and .u32 a0_1 1)) := (blk_cell BK105.out 1).trans rfl; have hcz72_2 : w70.cell? ⟨gb105, 2, none⟩ = some (.int .u32 (Go.bits .and .u32 a0_2 1)) := (blk_cell BK105.out 2).trans rfl; have hcz72_3 : w70.cell? ⟨gb105, 3, none⟩ = some (.int .u32 a0_3) := (blk_cell BK105.out 3).trans rfl; have hcz72_4 : w70.cell? ⟨gb105, 4, none⟩ = some (.int .u32 a0_4) := (blk_cell BK105.out 4).trans rfl; have hcz72_5 : w70.cell? ⟨gb105, 5, none⟩ = some (.int .u32 a0_5) := (blk_cell BK105.out 5).trans rfl; have hcz72_6 : w70.cell? ⟨gb105, 6, none⟩ = some (.int .u32 a0_6) := (blk_cell BK105.out 6).trans rfl; have hcz72_7 : w70.cell? ⟨gb105, 7, none⟩ = some (.int .i64 a0_7) := (blk_cell BK105.out 7).trans rfl; have hcz72_8 : w70.cell? ⟨gb105, 8, none⟩ = some (.int .i64 a0_8) := (blk_cell BK105.out 8).trans rfl; have hcz72_9 : w70.cell? ⟨gb105, 9, none⟩ = some (.int .u32 a0_9) := (blk_cell BK105.out 9).trans rfl; have hcz72_10 : w70.cell? ⟨gb105, 10, none⟩ = some (.int .i64 a0_10) := (blk_cell BK105.out 10).trans rfl; have hcz72_11 : w70.cell? ⟨gb105, 11, none⟩ = some (.int .i64 a0_11) := (blk_cell BK105.out 11).trans rfl; have hcz72_12 : w70.cell? ⟨gb105, 12, none⟩ = some (.int .u32 (Go.bits .and .u32 a0_12 1)) := (blk_cell BK105.out 12).trans rfl; have hcz72_13 : w70.cell? ⟨gb105, 13, none⟩ = some (.int .u32 (Go.bits .and .u32 a0_13 1)) := (blk_cell BK105.out 13).trans rfl; have hcz72_14 : w70.cell? ⟨gb105, 14, none⟩ = some (.string a0_14) := (blk_cell BK105.out 14).trans rfl; have hcz72_15 : w70.cell? ⟨gb105, 15, none⟩ = some (.string a0_15) := (blk_cell BK105.out 15).trans rfl; have hfz72_0 := blk_frozen BK105.out 0; have hfz72_1 := blk_frozen BK105.out 1; have hfz72_2 := blk_frozen BK105.out 2; have hfz72_3 := blk_frozen BK105.out 3; have hfz72_4 := blk_frozen BK105.out 4; have hfz72_5 := blk_frozen BK105.out 5; have hfz72_6 := blk_frozen BK105.out 6; have hfz72_7 := blk_frozen BK105.out 7; have hfz72_8 := blk_frozen BK105.out 8; have hfz72_9 := blk_frozen BK105.out 9; have hfz72_10 := blk_frozen BK105.out 10; have hfz72_11 := blk_frozen BK105.out 11; have hfz72_12 := blk_frozen BK105.out 12; have hfz72_13 := blk_frozen BK105.out 13; have hfz72_14 := blk_frozen BK105.out 14; have hfz72_15 := blk_frozen BK105.out 15) | (go_at_call 30; (with_reducible refine (clash_Of.calls kj51 a0_0 (Go.bits .and .u32 a0_1 1) (Go.bits .and .u32 a0_2 1) a0_3 a0_4 a0_5 a0_6 a0_7 a0_8 a0_9 a0_10 a0_11 (Go.bits .and .u32 a0_12 1) (Go.bits .and .u32 a0_13 1) a0_14 a0_15 (Go.bits .and .u32 a1 1) (Go.bits .and .u32 a2 1) t113 _ A69.out).mono ?_); rintro e w73 ⟨rfl, hb⟩; have n0_ := Aside0.mk (blk_below (g := gb104) (o := .cells #[.int .i64 a0_0, .int .u32 a0_1, .int .u32 a0_2, .int .u32 a0_3, .int .u32 a0_4, .int .u32 a0_5, .int .u32 a0_6, .int .i64 a0_7, .int .i64 a0_8, .int .u32 a0_9, .int .i64 a0_10, .int .i64 a0_11, .int .u32 a0_12, .int .u32 a0_13, .string a0_14, .string a0_15] 45 (0, 0)) (by (with_reducible repeat (first | refine blk_drewN ?_ _ | refine blk_drew ?_ | refine blk_alloc ?_ _)); exact BK104.out) hb); have n1_ := Aside0.mk (blk_below (g := gb105) (o := .cells #[.int .i64 a0_0, .int .u32 (Go.bits .and .u32 a0_1 1), .int .u32 (Go.bits .and .u32 a0_2 1), .int .u32 a0_3, .int .u32 a0_4, .int .u32 a0_5, .int .u32 a0_6, .int .i64 a0_7, .int .i64 a0_8, .int .u32 a0_9, .int .i64 a0_10, .int .i64 a0_11, .int .u32 (Go.bits .and .u32 a0_12 1), .int .u32 (Go.bits .and .u32 a0_13 1), .string a0_14, .string a0_15] 45 (0, 0)) (by (with_reducible repeat (first | refine blk_drewN ?_ _ | refine blk_drew ?_ | refine blk_alloc ?_ _)); exact BK105.out) hb); have n2_ := Aside0.mk (below_step (by repeat (first | (with_reducible first | exact HB.out | apply below_alloc | apply pw_below_drewN | apply below_drew1 | refine below_set ?_ GE104.out | refine below_set ?_ GE105.out) | exact HB.out)) hb); clear BK104; clear BK105; clear HB; have BK104 := n0_; have BK105 := n1_; have HB := n2_; clear n0_ n1_ n2_; (try clear hb); (try clear hb2); (try clear hk); (try clear hi)))
                        go_ret
                        exact ⟨by first | rfl | (simp [errW_none, errW_some] <;> rfl) | (simp [*, errW_none, errW_some] <;> rfl), by repeat (first | (with_reducible first | exact HB.out | apply below_alloc | apply pw_below_drewN | apply below_drew1 | refine below_set ?_ GE104.out | refine below_set ?_ GE105.out) | exact HB.out)⟩
                      · replace c68 := Bool.eq_false_iff.mpr c68
                        subst c68
                        have H1 : (some false) = some r := by rw [if_neg (show ¬ (false = true) by decide)] at H; exact H
                        clear H
                        have H := H1
                        clear H1
                        obtain rfl := Option.some.inj H
                        go_wp2_with (first | ((with_reducible refine gate_callee (f := 29) rfl ?_); refine goesL_ (some 85) rfl rfl Try.func29 (by kernel_rfl) rfl #[] rfl (by (try simp only [List.map_toArray, List.map_cons, List.map_nil]); first | done | rfl | (simp only [List.length_drop, List.length_take]; rfl)) ?_; (with_reducible refine (crosswaylaw23_awake.calls kj51  false _ A67.out).mono ?_); rintro e w74 ⟨rfl, hb⟩; refine ⟨_, rfl, ?_⟩; have n0_ := Aside0.mk (blk_below (g := gb104) (o := .cells #[.int .i64 a0_0, .int .u32 a0_1, .int .u32 a0_2, .int .u32 a0_3, .int .u32 a0_4, .int .u32 a0_5, .int .u32 a0_6, .int .i64 a0_7, .int .i64 a0_8, .int .u32 a0_9, .int .i64 a0_10, .int .i64 a0_11, .int .u32 a0_12, .int .u32 a0_13, .string a0_14, .string a0_15] 45 (0, 0)) (by (with_reducible repeat (first | refine blk_drewN ?_ _ | refine blk_drew ?_ | refine blk_alloc ?_ _)); exact BK104.out) hb); have n1_ := Aside0.mk (blk_below (g := gb105) (o := .cells #[.int .i64 a0_0, .int .u32 (Go.bits .and .u32 a0_1 1), .int .u32 (Go.bits .and .u32 a0_2 1), .int .u32 a0_3, .int .u32 a0_4, .int .u32 a0_5, .int .u32 a0_6, .int .i64 a0_7, .int .i64 a0_8, .int .u32 a0_9, .int .i64 a0_10, .int .i64 a0_11, .int .u32 (Go.bits .and .u32 a0_12 1), .int .u32 (Go.bits .and .u32 a0_13 1), .string a0_14, .string a0_15] 45 (0, 0)) (by (with_reducible repeat (first | refine blk_drewN ?_ _ | refine blk_drew ?_ | refine blk_alloc ?_ _)); exact BK105.out) hb); have n2_ := Aside0.mk (below_step (by repeat (first | (with_reducible first | exact HB.out | apply below_alloc | apply pw_below_drewN | apply below_drew1 | refine below_set ?_ GE104.out | refine below_set ?_ GE105.out) | exact HB.out)) hb); clear BK104; clear BK105; clear HB; have BK104 := n0_; have BK105 := n1_; have HB := n2_; clear n0_ n1_ n2_; (try clear hb); (try clear hb2); (try clear hk); (try clear hi)))
                        go_ret
                        exact ⟨by first | rfl | (simp [errW_none, errW_some] <;> rfl) | (simp [*, errW_none, errW_some] <;> rfl), by repeat (first | (with_reducible first | exact HB.out | apply below_alloc | apply pw_below_drewN | apply below_drew1 | refine below_set ?_ GE104.out | refine below_set ?_ GE105.out) | exact HB.out)⟩
              · replace c51 := Bool.eq_false_iff.mpr c51
                subst c51
                have H1 : (if (Go.bits .and .u32 a0_12 1) = 0 then (crosswaylaw23_ClashOf.j3 kj44 (Go.bits .and .u32 a1 1) (Go.bits .and .u32 a2 1) 0 false a0_0 (Go.bits .and .u32 a0_1 1) (Go.bits .and .u32 a0_2 1) a0_3 a0_4 a0_5 a0_6 a0_7 a0_8 a0_9 a0_10 a0_11 (Go.bits .and .u32 a0_12 1) (Go.bits .and .u32 a0_13 1) a0_14 a0_15) else (if (Go.bits .and .u32 a0_12 1) = (Go.bits .and .u32 a1 1) then (crosswaylaw23_ClashOf.j3 kj44 (Go.bits .and .u32 a1 1) (Go.bits .and .u32 a2 1) 0 ((Go.bits .and .u32 a0_13 1) == (Go.bits .and .u32 a2 1)) a0_0 (Go.bits .and .u32 a0_1 1) (Go.bits .and .u32 a0_2 1) a0_3 a0_4 a0_5 a0_6 a0_7 a0_8 a0_9 a0_10 a0_11 (Go.bits .and .u32 a0_12 1) (Go.bits .and .u32 a0_13 1) a0_14 a0_15) else (crosswaylaw23_ClashOf.j3 kj44 (Go.bits .and .u32 a1 1) (Go.bits .and .u32 a2 1) 0 false a0_0 (Go.bits .and .u32 a0_1 1) (Go.bits .and .u32 a0_2 1) a0_3 a0_4 a0_5 a0_6 a0_7 a0_8 a0_9 a0_10 a0_11 (Go.bits .and .u32 a0_12 1) (Go.bits .and .u32 a0_13 1) a0_14 a0_15))) = some r := by rw [if_neg (show ¬ (false = true) by decide)] at H; exact H
                clear H
                have H := H1
                clear H1
                have HC75 := Aside0.mk H
                clear H
                go_upto_region 12 with (fail)
                go_cut [69] (fun v69 wc => ∃ (kq : Nat) (x69_74 : Bool), v69 = .bool x69_74 ∧ Aside0 (crosswaylaw23_ClashOf.j3 kq (Go.bits .and .u32 a1 1) (Go.bits .and .u32 a2 1) 0 x69_74 a0_0 (Go.bits .and .u32 a0_1 1) (Go.bits .and .u32 a0_2 1) a0_3 a0_4 a0_5 a0_6 a0_7 a0_8 a0_9 a0_10 a0_11 (Go.bits .and .u32 a0_12 1) (Go.bits .and .u32 a0_13 1) a0_14 a0_15 = some r) ∧ Aside0 (kq ≤ kj44) ∧ Aside0 (wc.heap[gb104]? = some (.cells #[.int .i64 a0_0, .int .u32 a0_1, .int .u32 a0_2, .int .u32 a0_3, .int .u32 a0_4, .int .u32 a0_5, .int .u32 a0_6, .int .i64 a0_7, .int .i64 a0_8, .int .u32 a0_9, .int .i64 a0_10, .int .i64 a0_11, .int .u32 a0_12, .int .u32 a0_13, .string a0_14, .string a0_15] 45 (0, 0))) ∧ Aside0 (wc.heap[gb105]? = some (.cells #[.int .i64 a0_0, .int .u32 (Go.bits .and .u32 a0_1 1), .int .u32 (Go.bits .and .u32 a0_2 1), .int .u32 a0_3, .int .u32 a0_4, .int .u32 a0_5, .int .u32 a0_6, .int .i64 a0_7, .int .i64 a0_8, .int .u32 a0_9, .int .i64 a0_10, .int .i64 a0_11, .int .u32 (Go.bits .and .u32 a0_12 1), .int .u32 (Go.bits .and .u32 a0_13 1), .string a0_14, .string a0_15] 45 (0, 0))) ∧ Aside0 (Below w.heap.size w wc))
                case first => as_aux_lemma =>
                  have H := HC75.out
                  clear HC75
                  by_cases c76 : (Go.bits .and .u32 a0_12 1) = 0
                  · rw [if_pos c76] at H
                    have c76b0 : ((Go.bits .and .u32 a0_12 1) == 0) = true := beq_iff_eq.mpr c76
                    have c76b1 : ((Go.bits .and .u32 a0_12 1) != 0) = false := bne_eq_false_iff_eq.mpr c76
                    clear c76
                    (first | rw [c76b0] | (simp only [i64_w, i32_w]; rw [c76b0]) | skip)
                    have H' := Aside0.mk H
                    clear H
                    have hnb77 := NB105_104.out
                    have hnc77 := NB104_105.out
                    have hcz78_0 : wc.cell? ⟨gb105, 0, none⟩ = some (.int .i64 a0_0) := (blk_cell BK105.out 0).trans rfl
                    have hcz78_1 : wc.cell? ⟨gb105, 1, none⟩ = some (.int .u32 (Go.bits .and .u32 a0_1 1)) := (blk_cell BK105.out 1).trans rfl
                    have hcz78_2 : wc.cell? ⟨gb105, 2, none⟩ = some (.int .u32 (Go.bits .and .u32 a0_2 1)) := (blk_cell BK105.out 2).trans rfl
                    have hcz78_3 : wc.cell? ⟨gb105, 3, none⟩ = some (.int .u32 a0_3) := (blk_cell BK105.out 3).trans rfl
                    have hcz78_4 : wc.cell? ⟨gb105, 4, none⟩ = some (.int .u32 a0_4) := (blk_cell BK105.out 4).trans rfl
                    have hcz78_5 : wc.cell? ⟨gb105, 5, none⟩ = some (.int .u32 a0_5) := (blk_cell BK105.out 5).trans rfl
                    have hcz78_6 : wc.cell? ⟨gb105, 6, none⟩ = some (.int .u32 a0_6) := (blk_cell BK105.out 6).trans rfl
                    have hcz78_7 : wc.cell? ⟨gb105, 7, none⟩ = some (.int .i64 a0_7) := (blk_cell BK105.out 7).trans rfl
                    have hcz78_8 : wc.cell? ⟨gb105, 8, none⟩ = some (.int .i64 a0_8) := (blk_cell BK105.out 8).trans rfl
                    have hcz78_9 : wc.cell? ⟨gb105, 9, none⟩ = some (.int .u32 a0_9) := (blk_cell BK105.out 9).trans rfl
                    have hcz78_10 : wc.cell? ⟨gb105, 10, none⟩ = some (.int .i64 a0_10) := (blk_cell BK105.out 10).trans rfl
                    have hcz78_11 : wc.cell? ⟨gb105, 11, none⟩ = some (.int .i64 a0_11) := (blk_cell BK105.out 11).trans rfl
                    have hcz78_12 : wc.cell? ⟨gb105, 12, none⟩ = some (.int .u32 (Go.bits .and .u32 a0_12 1)) := (blk_cell BK105.out 12).trans rfl
                    have hcz78_13 : wc.cell? ⟨gb105, 13, none⟩ = some (.int .u32 (Go.bits .and .u32 a0_13 1)) := (blk_cell BK105.out 13).trans rfl
                    have hcz78_14 : wc.cell? ⟨gb105, 14, none⟩ = some (.string a0_14) := (blk_cell BK105.out 14).trans rfl
                    have hcz78_15 : wc.cell? ⟨gb105, 15, none⟩ = some (.string a0_15) := (blk_cell BK105.out 15).trans rfl
                    have hfz78_0 := blk_frozen BK105.out 0
                    have hfz78_1 := blk_frozen BK105.out 1
                    have hfz78_2 := blk_frozen BK105.out 2
                    have hfz78_3 := blk_frozen BK105.out 3
                    have hfz78_4 := blk_frozen BK105.out 4
                    have hfz78_5 := blk_frozen BK105.out 5
                    have hfz78_6 := blk_frozen BK105.out 6
                    have hfz78_7 := blk_frozen BK105.out 7
                    have hfz78_8 := blk_frozen BK105.out 8
                    have hfz78_9 := blk_frozen BK105.out 9
                    have hfz78_10 := blk_frozen BK105.out 10
                    have hfz78_11 := blk_frozen BK105.out 11
                    have hfz78_12 := blk_frozen BK105.out 12
                    have hfz78_13 := blk_frozen BK105.out 13
                    have hfz78_14 := blk_frozen BK105.out 14
                    have hfz78_15 := blk_frozen BK105.out 15
                    go_wp2
                    go_meet
                    case rel => exact ⟨_, (false), (by first | rfl | (simp; done) | (simp [*]; done)), H', ⟨by have := HJ3.out; have := HJ44.out; first | omega | exact Nat.le_refl _⟩, ⟨by (with_reducible repeat (first | refine blk_drewN ?_ _ | refine blk_drew ?_ | refine blk_alloc ?_ _)); exact BK104.out⟩, ⟨by (with_reducible repeat (first | refine blk_drewN ?_ _ | refine blk_drew ?_ | refine blk_alloc ?_ _)); exact BK105.out⟩, ⟨by repeat (first | (with_reducible first | exact HB.out | apply below_alloc | apply pw_below_drewN | apply below_drew1 | refine below_set ?_ GE104.out | refine below_set ?_ GE105.out) | exact HB.out)⟩⟩
                  · rw [if_neg c76] at H
                    have c76b0 : ((Go.bits .and .u32 a0_12 1) == 0) = false := beq_eq_false_iff_ne.mpr c76
                    have c76b1 : ((Go.bits .and .u32 a0_12 1) != 0) = true := bne_iff_ne.mpr c76
                    (first | rw [c76b0] | (simp only [i64_w, i32_w]; rw [c76b0]) | skip)
                    by_cases c79 : (Go.bits .and .u32 a0_12 1) = (Go.bits .and .u32 a1 1)
                    · rw [if_pos c79] at H
                      have c79b0 : ((Go.bits .and .u32 a0_12 1) == (Go.bits .and .u32 a1 1)) = true := beq_iff_eq.mpr c79
                      have c79b1 : ((Go.bits .and .u32 a0_12 1) != (Go.bits .and .u32 a1 1)) = false := bne_eq_false_iff_eq.mpr c79
                      clear c79
                      have H' := Aside0.mk H
                      clear H
                      have hnb80 := NB105_104.out
                      have hnc80 := NB104_105.out
                      have hcz81_0 : wc.cell? ⟨gb105, 0, none⟩ = some (.int .i64 a0_0) := (blk_cell BK105.out 0).trans rfl
                      have hcz81_1 : wc.cell? ⟨gb105, 1, none⟩ = some (.int .u32 (Go.bits .and .u32 a0_1 1)) := (blk_cell BK105.out 1).trans rfl
                      have hcz81_2 : wc.cell? ⟨gb105, 2, none⟩ = some (.int .u32 (Go.bits .and .u32 a0_2 1)) := (blk_cell BK105.out 2).trans rfl
                      have hcz81_3 : wc.cell? ⟨gb105, 3, none⟩ = some (.int .u32 a0_3) := (blk_cell BK105.out 3).trans rfl
                      have hcz81_4 : wc.cell? ⟨gb105, 4, none⟩ = some (.int .u32 a0_4) := (blk_cell BK105.out 4).trans rfl
                      have hcz81_5 : wc.cell? ⟨gb105, 5, none⟩ = some (.int .u32 a0_5) := (blk_cell BK105.out 5).trans rfl
                      have hcz81_6 : wc.cell? ⟨gb105, 6, none⟩ = some (.int .u32 a0_6) := (blk_cell BK105.out 6).trans rfl
                      have hcz81_7 : wc.cell? ⟨gb105, 7, none⟩ = some (.int .i64 a0_7) := (blk_cell BK105.out 7).trans rfl
                      have hcz81_8 : wc.cell? ⟨gb105, 8, none⟩ = some (.int .i64 a0_8) := (blk_cell BK105.out 8).trans rfl
                      have hcz81_9 : wc.cell? ⟨gb105, 9, none⟩ = some (.int .u32 a0_9) := (blk_cell BK105.out 9).trans rfl
                      have hcz81_10 : wc.cell? ⟨gb105, 10, none⟩ = some (.int .i64 a0_10) := (blk_cell BK105.out 10).trans rfl
                      have hcz81_11 : wc.cell? ⟨gb105, 11, none⟩ = some (.int .i64 a0_11) := (blk_cell BK105.out 11).trans rfl
                      have hcz81_12 : wc.cell? ⟨gb105, 12, none⟩ = some (.int .u32 (Go.bits .and .u32 a0_12 1)) := (blk_cell BK105.out 12).trans rfl
                      have hcz81_13 : wc.cell? ⟨gb105, 13, none⟩ = some (.int .u32 (Go.bits .and .u32 a0_13 1)) := (blk_cell BK105.out 13).trans rfl
                      have hcz81_14 : wc.cell? ⟨gb105, 14, none⟩ = some (.string a0_14) := (blk_cell BK105.out 14).trans rfl
                      have hcz81_15 : wc.cell? ⟨gb105, 15, none⟩ = some (.string a0_15) := (blk_cell BK105.out 15).trans rfl
                      have hfz81_0 := blk_frozen BK105.out 0
                      have hfz81_1 := blk_frozen BK105.out 1
                      have hfz81_2 := blk_frozen BK105.out 2
                      have hfz81_3 := blk_frozen BK105.out 3
                      have hfz81_4 := blk_frozen BK105.out 4
                      have hfz81_5 := blk_frozen BK105.out 5
                      have hfz81_6 := blk_frozen BK105.out 6
                      have hfz81_7 := blk_frozen BK105.out 7
                      have hfz81_8 := blk_frozen BK105.out 8
                      have hfz81_9 := blk_frozen BK105.out 9
                      have hfz81_10 := blk_frozen BK105.out 10
                      have hfz81_11 := blk_frozen BK105.out 11
                      have hfz81_12 := blk_frozen BK105.out 12
                      have hfz81_13 := blk_frozen BK105.out 13
                      have hfz81_14 := blk_frozen BK105.out 14
                      have hfz81_15 := blk_frozen BK105.out 15
                      go_wp2
                      go_meet
                      case rel => exact ⟨_, (((Go.bits .and .u32 a0_13 1) == (Go.bits .and .u32 a2 1))), (by first | rfl | (simp; done) | (simp [*]; done)), H', ⟨by have := HJ3.out; have := HJ44.out; first | omega | exact Nat.le_refl _⟩, ⟨by (with_reducible repeat (first | refine blk_drewN ?_ _ | refine blk_drew ?_ | refine blk_alloc ?_ _)); exact BK104.out⟩, ⟨by (with_reducible repeat (first | refine blk_drewN ?_ _ | refine blk_drew ?_ | refine blk_alloc ?_ _)); exact BK105.out⟩, ⟨by repeat (first | (with_reducible first | exact HB.out | apply below_alloc | apply pw_below_drewN | apply below_drew1 | refine below_set ?_ GE104.out | refine below_set ?_ GE105.out) | exact HB.out)⟩⟩
                    · rw [if_neg c79] at H
                      have c79b0 : ((Go.bits .and .u32 a0_12 1) == (Go.bits .and .u32 a1 1)) = false := beq_eq_false_iff_ne.mpr c79
                      have c79b1 : ((Go.bits .and .u32 a0_12 1) != (Go.bits .and .u32 a1 1)) = true := bne_iff_ne.mpr c79
                      have H' := Aside0.mk H
                      clear H
                      have hnb82 := NB105_104.out
                      have hnc82 := NB104_105.out
                      have hcz83_0 : wc.cell? ⟨gb105, 0, none⟩ = some (.int .i64 a0_0) := (blk_cell BK105.out 0).trans rfl
                      have hcz83_1 : wc.cell? ⟨gb105, 1, none⟩ = some (.int .u32 (Go.bits .and .u32 a0_1 1)) := (blk_cell BK105.out 1).trans rfl
                      have hcz83_2 : wc.cell? ⟨gb105, 2, none⟩ = some (.int .u32 (Go.bits .and .u32 a0_2 1)) := (blk_cell BK105.out 2).trans rfl
                      have hcz83_3 : wc.cell? ⟨gb105, 3, none⟩ = some (.int .u32 a0_3) := (blk_cell BK105.out 3).trans rfl
                      have hcz83_4 : wc.cell? ⟨gb105, 4, none⟩ = some (.int .u32 a0_4) := (blk_cell BK105.out 4).trans rfl
                      have hcz83_5 : wc.cell? ⟨gb105, 5, none⟩ = some (.int .u32 a0_5) := (blk_cell BK105.out 5).trans rfl
                      have hcz83_6 : wc.cell? ⟨gb105, 6, none⟩ = some (.int .u32 a0_6) := (blk_cell BK105.out 6).trans rfl
                      have hcz83_7 : wc.cell? ⟨gb105, 7, none⟩ = some (.int .i64 a0_7) := (blk_cell BK105.out 7).trans rfl
                      have hcz83_8 : wc.cell? ⟨gb105, 8, none⟩ = some (.int .i64 a0_8) := (blk_cell BK105.out 8).trans rfl
                      have hcz83_9 : wc.cell? ⟨gb105, 9, none⟩ = some (.int .u32 a0_9) := (blk_cell BK105.out 9).trans rfl
                      have hcz83_10 : wc.cell? ⟨gb105, 10, none⟩ = some (.int .i64 a0_10) := (blk_cell BK105.out 10).trans rfl
                      have hcz83_11 : wc.cell? ⟨gb105, 11, none⟩ = some (.int .i64 a0_11) := (blk_cell BK105.out 11).trans rfl
                      have hcz83_12 : wc.cell? ⟨gb105, 12, none⟩ = some (.int .u32 (Go.bits .and .u32 a0_12 1)) := (blk_cell BK105.out 12).trans rfl
                      have hcz83_13 : wc.cell? ⟨gb105, 13, none⟩ = some (.int .u32 (Go.bits .and .u32 a0_13 1)) := (blk_cell BK105.out 13).trans rfl
                      have hcz83_14 : wc.cell? ⟨gb105, 14, none⟩ = some (.string a0_14) := (blk_cell BK105.out 14).trans rfl
                      have hcz83_15 : wc.cell? ⟨gb105, 15, none⟩ = some (.string a0_15) := (blk_cell BK105.out 15).trans rfl
                      have hfz83_0 := blk_frozen BK105.out 0
                      have hfz83_1 := blk_frozen BK105.out 1
                      have hfz83_2 := blk_frozen BK105.out 2
                      have hfz83_3 := blk_frozen BK105.out 3
                      have hfz83_4 := blk_frozen BK105.out 4
                      have hfz83_5 := blk_frozen BK105.out 5
                      have hfz83_6 := blk_frozen BK105.out 6
                      have hfz83_7 := blk_frozen BK105.out 7
                      have hfz83_8 := blk_frozen BK105.out 8
                      have hfz83_9 := blk_frozen BK105.out 9
                      have hfz83_10 := blk_frozen BK105.out 10
                      have hfz83_11 := blk_frozen BK105.out 11
                      have hfz83_12 := blk_frozen BK105.out 12
                      have hfz83_13 := blk_frozen BK105.out 13
                      have hfz83_14 := blk_frozen BK105.out 14
                      have hfz83_15 := blk_frozen BK105.out 15
                      go_wp2
                      go_meet
                      case rel => exact ⟨_, (false), (by first | rfl | (simp; done) | (simp [*]; done)), H', ⟨by have := HJ3.out; have := HJ44.out; first | omega | exact Nat.le_refl _⟩, ⟨by (with_reducible repeat (first | refine blk_drewN ?_ _ | refine blk_drew ?_ | refine blk_alloc ?_ _)); exact BK104.out⟩, ⟨by (with_reducible repeat (first | refine blk_drewN ?_ _ | refine blk_drew ?_ | refine blk_alloc ?_ _)); exact BK105.out⟩, ⟨by repeat (first | (with_reducible first | exact HB.out | apply below_alloc | apply pw_below_drewN | apply below_drew1 | refine below_set ?_ GE104.out | refine below_set ?_ GE105.out) | exact HB.out)⟩⟩
                case rest => as_aux_lemma =>
                  clear HC75
                  try clear c2
                  try clear p2
                  try clear c5
                  try clear c6
                  try clear c7
                  try clear c8
                  try clear c29
                  try clear c51
                  try clear c58
                  try clear c60
                  try clear c63
                  try clear c68
                  try clear c71
                  try clear c76
                  try clear c76b0
                  try clear c76b1
                  try clear c77
                  try clear c79
                  try clear c79b0
                  try clear c79b1
                  try clear c80
                  try clear c82
                  try clear hcz23_8
                  try clear hcz23_9
                  try clear hcz30_0
                  try clear hcz30_1
                  try clear hcz30_10
                  try clear hcz30_11
                  try clear hcz30_12
                  try clear hcz30_13
                  try clear hcz30_14
                  try clear hcz30_15
                  try clear hcz30_2
                  try clear hcz30_3
                  try clear hcz30_4
                  try clear hcz30_5
                  try clear hcz30_6
                  try clear hcz30_7
                  try clear hcz30_8
                  try clear hcz30_9
                  try clear hcz38_0
                  try clear hcz38_1
                  try clear hcz38_10
                  try clear hcz38_11
                  try clear hcz38_12
                  try clear hcz38_13
                  try clear hcz38_14
                  try clear hcz38_15
                  try clear hcz38_2
                  try clear hcz38_3
                  try clear hcz38_4
                  try clear hcz38_5
                  try clear hcz38_6
                  try clear hcz38_7
                  try clear hcz38_8
                  try clear hcz38_9
                  try clear hcz40_0
                  try clear hcz40_1
                  try clear hcz40_10
                  try clear hcz40_11
                  try clear hcz40_12
                  try clear hcz40_13
                  try clear hcz40_14
                  try clear hcz40_15
                  try clear hcz40_2
                  try clear hcz40_3
                  try clear hcz40_4
                  try clear hcz40_5
                  try clear hcz40_6
                  try clear hcz40_7
                  try clear hcz40_8
                  try clear hcz40_9
                  try clear hcz43_0
                  try clear hcz43_1
                  try clear hcz43_10
                  try clear hcz43_11
                  try clear hcz43_12
                  try clear hcz43_13
                  try clear hcz43_14
                  try clear hcz43_15
                  try clear hcz43_2
                  try clear hcz43_3
                  try clear hcz43_4
                  try clear hcz43_5
                  try clear hcz43_6
                  try clear hcz43_7
                  try clear hcz43_8
                  try clear hcz43_9
                  try clear hcz47_0
                  try clear hcz47_1
                  try clear hcz47_10
                  try clear hcz47_11
                  try clear hcz47_12
                  try clear hcz47_13
                  try clear hcz47_14
                  try clear hcz47_15
                  try clear hcz47_2
                  try clear hcz47_3
                  try clear hcz47_4
                  try clear hcz47_5
                  try clear hcz47_6
                  try clear hcz47_7
                  try clear hcz47_8
                  try clear hcz47_9
                  try clear hcz50_0
                  try clear hcz50_1
                  try clear hcz50_10
                  try clear hcz50_11
                  try clear hcz50_12
                  try clear hcz50_13
                  try clear hcz50_14
                  try clear hcz50_15
                  try clear hcz50_2
                  try clear hcz50_3
                  try clear hcz50_4
                  try clear hcz50_5
                  try clear hcz50_6
                  try clear hcz50_7
                  try clear hcz50_8
                  try clear hcz50_9
                  try clear hcz55_0
                  try clear hcz55_1
                  try clear hcz55_10
                  try clear hcz55_11
                  try clear hcz55_12
                  try clear hcz55_13
                  try clear hcz55_14
                  try clear hcz55_15
                  try clear hcz55_2
                  try clear hcz55_3
                  try clear hcz55_4
                  try clear hcz55_5
                  try clear hcz55_6
                  try clear hcz55_7
                  try clear hcz55_8
                  try clear hcz55_9
                  try clear hcz57_0
                  try clear hcz57_1
                  try clear hcz57_10
                  try clear hcz57_11
                  try clear hcz57_12
                  try clear hcz57_13
                  try clear hcz57_14
                  try clear hcz57_15
                  try clear hcz57_2
                  try clear hcz57_3
                  try clear hcz57_4
                  try clear hcz57_5
                  try clear hcz57_6
                  try clear hcz57_7
                  try clear hcz57_8
                  try clear hcz57_9
                  try clear hcz64_0
                  try clear hcz64_1
                  try clear hcz64_10
                  try clear hcz64_11
                  try clear hcz64_12
                  try clear hcz64_13
                  try clear hcz64_14
                  try clear hcz64_15
                  try clear hcz64_2
                  try clear hcz64_3
                  try clear hcz64_4
                  try clear hcz64_5
                  try clear hcz64_6
                  try clear hcz64_7
                  try clear hcz64_8
                  try clear hcz64_9
                  try clear hcz6_0
                  try clear hcz6_1
                  try clear hcz6_10
                  try clear hcz6_11
                  try clear hcz6_12
                  try clear hcz6_13
                  try clear hcz6_14
                  try clear hcz6_15
                  try clear hcz6_2
                  try clear hcz6_3
                  try clear hcz6_4
                  try clear hcz6_5
                  try clear hcz6_6
                  try clear hcz6_7
                  try clear hcz6_8
                  try clear hcz6_9
                  try clear hcz72_0
                  try clear hcz72_1
                  try clear hcz72_10
                  try clear hcz72_11
                  try clear hcz72_12
                  try clear hcz72_13
                  try clear hcz72_14
                  try clear hcz72_15
                  try clear hcz72_2
                  try clear hcz72_3
                  try clear hcz72_4
                  try clear hcz72_5
                  try clear hcz72_6
                  try clear hcz72_7
                  try clear hcz72_8
                  try clear hcz72_9
                  try clear hcz78_0
                  try clear hcz78_1
                  try clear hcz78_10
                  try clear hcz78_11
                  try clear hcz78_12
                  try clear hcz78_13
                  try clear hcz78_14
                  try clear hcz78_15
                  try clear hcz78_2
                  try clear hcz78_3
                  try clear hcz78_4
                  try clear hcz78_5
                  try clear hcz78_6
                  try clear hcz78_7
                  try clear hcz78_8
                  try clear hcz78_9
                  try clear hcz81_0
                  try clear hcz81_1
                  try clear hcz81_10
                  try clear hcz81_11
                  try clear hcz81_12
                  try clear hcz81_13
                  try clear hcz81_14
                  try clear hcz81_15
                  try clear hcz81_2
                  try clear hcz81_3
                  try clear hcz81_4
                  try clear hcz81_5
                  try clear hcz81_6
                  try clear hcz81_7
                  try clear hcz81_8
                  try clear hcz81_9
                  try clear hcz83_0
                  try clear hcz83_1
                  try clear hcz83_10
                  try clear hcz83_11
                  try clear hcz83_12
                  try clear hcz83_13
                  try clear hcz83_14
                  try clear hcz83_15
                  try clear hcz83_2
                  try clear hcz83_3
                  try clear hcz83_4
                  try clear hcz83_5
                  try clear hcz83_6
                  try clear hcz83_7
                  try clear hcz83_8
                  try clear hcz83_9
                  try clear hcz9_0
                  try clear hcz9_1
                  try clear hcz9_10
                  try clear hcz9_11
                  try clear hcz9_12
                  try clear hcz9_13
                  try clear hcz9_14
                  try clear hcz9_15
                  try clear hcz9_2
                  try clear hcz9_3
                  try clear hcz9_4
                  try clear hcz9_5
                  try clear hcz9_6
                  try clear hcz9_7
                  try clear hcz9_8
                  try clear hcz9_9
                  try clear hfz19_0
                  try clear hfz19_1
                  try clear hfz19_10
                  try clear hfz19_11
                  try clear hfz19_12
                  try clear hfz19_13
                  try clear hfz19_14
                  try clear hfz19_15
                  try clear hfz19_2
                  try clear hfz19_3
                  try clear hfz19_4
                  try clear hfz19_5
                  try clear hfz19_6
                  try clear hfz19_7
                  try clear hfz19_8
                  try clear hfz19_9
                  try clear hfz21_0
                  try clear hfz21_1
                  try clear hfz21_10
                  try clear hfz21_11
                  try clear hfz21_12
                  try clear hfz21_13
                  try clear hfz21_14
                  try clear hfz21_15
                  try clear hfz21_2
                  try clear hfz21_3
                  try clear hfz21_4
                  try clear hfz21_5
                  try clear hfz21_6
                  try clear hfz21_7
                  try clear hfz21_8
                  try clear hfz21_9
                  try clear hfz23_0
                  try clear hfz23_1
                  try clear hfz23_10
                  try clear hfz23_11
                  try clear hfz23_12
                  try clear hfz23_13
                  try clear hfz23_14
                  try clear hfz23_15
                  try clear hfz23_2
                  try clear hfz23_3
                  try clear hfz23_4
                  try clear hfz23_5
                  try clear hfz23_6
                  try clear hfz23_7
                  try clear hfz23_8
                  try clear hfz23_9
                  try clear hfz30_0
                  try clear hfz30_1
                  try clear hfz30_10
                  try clear hfz30_11
                  try clear hfz30_12
                  try clear hfz30_13
                  try clear hfz30_14
                  try clear hfz30_15
                  try clear hfz30_2
                  try clear hfz30_3
                  try clear hfz30_4
                  try clear hfz30_5
                  try clear hfz30_6
                  try clear hfz30_7
                  try clear hfz30_8
                  try clear hfz30_9
                  try clear hfz38_0
                  try clear hfz38_1
                  try clear hfz38_10
                  try clear hfz38_11
                  try clear hfz38_12
                  try clear hfz38_13
                  try clear hfz38_14
                  try clear hfz38_15
                  try clear hfz38_2
                  try clear hfz38_3
                  try clear hfz38_4
                  try clear hfz38_5
                  try clear hfz38_6
                  try clear hfz38_7
                  try clear hfz38_8
                  try clear hfz38_9
                  try clear hfz40_0
                  try clear hfz40_1
                  try clear hfz40_10
                  try clear hfz40_11
                  try clear hfz40_12
                  try clear hfz40_13
                  try clear hfz40_14
                  try clear hfz40_15
                  try clear hfz40_2
                  try clear hfz40_3
                  try clear hfz40_4
                  try clear hfz40_5
                  try clear hfz40_6
                  try clear hfz40_7
                  try clear hfz40_8
                  try clear hfz40_9
                  try clear hfz43_0
                  try clear hfz43_1
                  try clear hfz43_10
                  try clear hfz43_11
                  try clear hfz43_12
                  try clear hfz43_13
                  try clear hfz43_14
                  try clear hfz43_15
                  try clear hfz43_2
                  try clear hfz43_3
                  try clear hfz43_4
                  try clear hfz43_5
                  try clear hfz43_6
                  try clear hfz43_7
                  try clear hfz43_8
                  try clear hfz43_9
                  try clear hfz47_0
                  try clear hfz47_1
                  try clear hfz47_10
                  try clear hfz47_11
                  try clear hfz47_12
                  try clear hfz47_13
                  try clear hfz47_14
                  try clear hfz47_15
                  try clear hfz47_2
                  try clear hfz47_3
                  try clear hfz47_4
                  try clear hfz47_5
                  try clear hfz47_6
                  try clear hfz47_7
                  try clear hfz47_8
                  try clear hfz47_9
                  try clear hfz50_0
                  try clear hfz50_1
                  try clear hfz50_10
                  try clear hfz50_11
                  try clear hfz50_12
                  try clear hfz50_13
                  try clear hfz50_14
                  try clear hfz50_15
                  try clear hfz50_2
                  try clear hfz50_3
                  try clear hfz50_4
                  try clear hfz50_5
                  try clear hfz50_6
                  try clear hfz50_7
                  try clear hfz50_8
                  try clear hfz50_9
                  try clear hfz55_0
                  try clear hfz55_1
                  try clear hfz55_10
                  try clear hfz55_11
                  try clear hfz55_12
                  try clear hfz55_13
                  try clear hfz55_14
                  try clear hfz55_15
                  try clear hfz55_2
                  try clear hfz55_3
                  try clear hfz55_4
                  try clear hfz55_5
                  try clear hfz55_6
                  try clear hfz55_7
                  try clear hfz55_8
                  try clear hfz55_9
                  try clear hfz57_0
                  try clear hfz57_1
                  try clear hfz57_10
                  try clear hfz57_11
                  try clear hfz57_12
                  try clear hfz57_13
                  try clear hfz57_14
                  try clear hfz57_15
                  try clear hfz57_2
                  try clear hfz57_3
                  try clear hfz57_4
                  try clear hfz57_5
                  try clear hfz57_6
                  try clear hfz57_7
                  try clear hfz57_8
                  try clear hfz57_9
                  try clear hfz64_0
                  try clear hfz64_1
                  try clear hfz64_10
                  try clear hfz64_11
                  try clear hfz64_12
                  try clear hfz64_13
                  try clear hfz64_14
                  try clear hfz64_15
                  try clear hfz64_2
                  try clear hfz64_3
                  try clear hfz64_4
                  try clear hfz64_5
                  try clear hfz64_6
                  try clear hfz64_7
                  try clear hfz64_8
                  try clear hfz64_9
                  try clear hfz6_0
                  try clear hfz6_1
                  try clear hfz6_10
                  try clear hfz6_11
                  try clear hfz6_12
                  try clear hfz6_13
                  try clear hfz6_14
                  try clear hfz6_15
                  try clear hfz6_2
                  try clear hfz6_3
                  try clear hfz6_4
                  try clear hfz6_5
                  try clear hfz6_6
                  try clear hfz6_7
                  try clear hfz6_8
                  try clear hfz6_9
                  try clear hfz72_0
                  try clear hfz72_1
                  try clear hfz72_10
                  try clear hfz72_11
                  try clear hfz72_12
                  try clear hfz72_13
                  try clear hfz72_14
                  try clear hfz72_15
                  try clear hfz72_2
                  try clear hfz72_3
                  try clear hfz72_4
                  try clear hfz72_5
                  try clear hfz72_6
                  try clear hfz72_7
                  try clear hfz72_8
                  try clear hfz72_9
                  try clear hfz78_0
                  try clear hfz78_1
                  try clear hfz78_10
                  try clear hfz78_11
                  try clear hfz78_12
                  try clear hfz78_13
                  try clear hfz78_14
                  try clear hfz78_15
                  try clear hfz78_2
                  try clear hfz78_3
                  try clear hfz78_4
                  try clear hfz78_5
                  try clear hfz78_6
                  try clear hfz78_7
                  try clear hfz78_8
                  try clear hfz78_9
                  try clear hfz81_0
                  try clear hfz81_1
                  try clear hfz81_10
                  try clear hfz81_11
                  try clear hfz81_12
                  try clear hfz81_13
                  try clear hfz81_14
                  try clear hfz81_15
                  try clear hfz81_2
                  try clear hfz81_3
                  try clear hfz81_4
                  try clear hfz81_5
                  try clear hfz81_6
                  try clear hfz81_7
                  try clear hfz81_8
                  try clear hfz81_9
                  try clear hfz83_0
                  try clear hfz83_1
                  try clear hfz83_10
                  try clear hfz83_11
                  try clear hfz83_12
                  try clear hfz83_13
                  try clear hfz83_14
                  try clear hfz83_15
                  try clear hfz83_2
                  try clear hfz83_3
                  try clear hfz83_4
                  try clear hfz83_5
                  try clear hfz83_6
                  try clear hfz83_7
                  try clear hfz83_8
                  try clear hfz83_9
                  try clear hfz9_0
                  try clear hfz9_1
                  try clear hfz9_10
                  try clear hfz9_11
                  try clear hfz9_12
                  try clear hfz9_13
                  try clear hfz9_14
                  try clear hfz9_15
                  try clear hfz9_2
                  try clear hfz9_3
                  try clear hfz9_4
                  try clear hfz9_5
                  try clear hfz9_6
                  try clear hfz9_7
                  try clear hfz9_8
                  try clear hfz9_9
                  try clear p2
                  obtain ⟨kq, x69_74, rfl, HA, HJ74, BK104, BK105, HB⟩ := hcut
                  cases kq with
                  | zero => exact absurd HA.out (by simp [crosswaylaw23_ClashOf.j3])
                  | succ kj74 =>
                    have H := HA.out
                    clear HA
                    simp only [crosswaylaw23_ClashOf.j3] at H
                    by_cases c84 : x69_74 = true
                    · subst c84
                      have H1 : ((crosswaylaw23_awake.f kj74).bind fun t114 => (if t114 = true then ((clash_Of.f kj74 a0_0 (Go.bits .and .u32 a0_1 1) (Go.bits .and .u32 a0_2 1) a0_3 a0_4 a0_5 a0_6 a0_7 a0_8 a0_9 a0_10 a0_11 (Go.bits .and .u32 a0_12 1) (Go.bits .and .u32 a0_13 1) a0_14 a0_15 (Go.bits .and .u32 a1 1) (Go.bits .and .u32 a2 1)).bind fun t115 => (some (t115 == 1))) else (some false))) = some r := by rw [if_pos rfl] at H; exact H
                      clear H
                      have H := H1
                      clear H1
                      replace H := Option.bind_eq_some_iff.mp H
                      obtain ⟨t114, A850, H⟩ := H
                      replace H : (if t114 = true then ((clash_Of.f kj74 a0_0 (Go.bits .and .u32 a0_1 1) (Go.bits .and .u32 a0_2 1) a0_3 a0_4 a0_5 a0_6 a0_7 a0_8 a0_9 a0_10 a0_11 (Go.bits .and .u32 a0_12 1) (Go.bits .and .u32 a0_13 1) a0_14 a0_15 (Go.bits .and .u32 a1 1) (Go.bits .and .u32 a2 1)).bind fun t115 => (some (t115 == 1))) else (some false)) = some r := H
                      have A85 := Aside0.mk A850
                      clear A850
                      by_cases c86 : t114 = true
                      · subst c86
                        have H1 : ((clash_Of.f kj74 a0_0 (Go.bits .and .u32 a0_1 1) (Go.bits .and .u32 a0_2 1) a0_3 a0_4 a0_5 a0_6 a0_7 a0_8 a0_9 a0_10 a0_11 (Go.bits .and .u32 a0_12 1) (Go.bits .and .u32 a0_13 1) a0_14 a0_15 (Go.bits .and .u32 a1 1) (Go.bits .and .u32 a2 1)).bind fun t115 => (some (t115 == 1))) = some r := by rw [if_pos rfl] at H; exact H
                        clear H
                        have H := H1
                        clear H1
                        replace H := Option.bind_eq_some_iff.mp H
                        obtain ⟨t115, A870, H⟩ := H
                        replace H : (some (t115 == 1)) = some r := H
                        have A87 := Aside0.mk A870
                        clear A870
                        obtain rfl := Option.some.inj H
                        go_wp2_with (first | ((with_reducible refine gate_callee (f := 29) rfl ?_); refine goesL_ (some 85) rfl rfl Try.func29 (by kernel_rfl) rfl #[] rfl (by (try simp only [List.map_toArray, List.map_cons, List.map_nil]); first | done | rfl | (simp only [List.length_drop, List.length_take]; rfl)) ?_; (with_reducible refine (crosswaylaw23_awake.calls kj74  true _ A85.out).mono ?_); rintro e w88 ⟨rfl, hb⟩; refine ⟨_, rfl, ?_⟩; have n0_ := Aside0.mk (blk_below (g := gb104) (o := .cells #[.int .i64 a0_0, .int .u32 a0_1, .int .u32 a0_2, .int .u32 a0_3, .int .u32 a0_4, .int .u32 a0_5, .int .u32 a0_6, .int .i64 a0_7, .int .i64 a0_8, .int .u32 a0_9, .int .i64 a0_10, .int .i64 a0_11, .int .u32 a0_12, .int .u32 a0_13, .string a0_14, .string a0_15] 45 (0, 0)) (by (with_reducible repeat (first | refine blk_drewN ?_ _ | refine blk_drew ?_ | refine blk_alloc ?_ _)); exact BK104.out) hb); have n1_ := Aside0.mk (blk_below (g := gb105) (o := .cells #[.int .i64 a0_0, .int .u32 (Go.bits .and .u32 a0_1 1), .int .u32 (Go.bits .and .u32 a0_2 1), .int .u32 a0_3, .int .u32 a0_4, .int .u32 a0_5, .int .u32 a0_6, .int .i64 a0_7, .int .i64 a0_8, .int .u32 a0_9, .int .i64 a0_10, .int .i64 a0_11, .int .u32 (Go.bits .and .u32 a0_12 1), .int .u32 (Go.bits .and .u32 a0_13 1), .string a0_14, .string a0_15] 45 (0, 0)) (by (with_reducible repeat (first | refine blk_drewN ?_ _ | refine blk_drew ?_ | refine blk_alloc ?_ _)); exact BK105.out) hb); have n2_ := Aside0.mk (below_step (by repeat (first | (with_reducible first | exact HB.out | apply below_alloc | apply pw_below_drewN | apply below_drew1 | refine below_set ?_ GE104.out | refine below_set ?_ GE105.out) | exact HB.out)) hb); clear BK104; clear BK105; clear HB; have BK104 := n0_; have BK105 := n1_; have HB := n2_; clear n0_ n1_ n2_; (try clear hb); (try clear hb2); (try clear hk); (try clear hi); have hnb89 := NB105_104.out; have hnc89 := NB104_105.out; have hcz90_0 : w88.cell? ⟨gb105, 0, none⟩ = some (.int .i64 a0_0) := (blk_cell BK105.out 0).trans rfl; have hcz90_1 : w88.cell? ⟨gb105, 1, none⟩ = some (.int .u32 (Go.bits .and .u32 a0_1 1)) := (blk_cell BK105.out 1).trans rfl; have hcz90_2 : w88.cell? ⟨gb105, 2, none⟩ = some (.int .u32 (Go.bits .and .u32 a0_2 1)) := (blk_cell BK105.out 2).trans rfl; have hcz90_3 : w88.cell? ⟨gb105, 3, none⟩ = some (.int .u32 a0_3) := (blk_cell BK105.out 3).trans rfl; have hcz90_4 : w88.cell? ⟨gb105, 4, none⟩ = some (.int .u32 a0_4) := (blk_cell BK105.out 4).trans rfl; have hcz90_5 : w88.cell? ⟨gb105, 5, none⟩ = some (.int .u32 a0_5) := (blk_cell BK105.out 5).trans rfl; have hcz90_6 : w88.cell? ⟨gb105, 6, none⟩ = some (.int .u32 a0_6) := (blk_cell BK105.out 6).trans rfl; have hcz90_7 : w88.cell? ⟨gb105, 7, none⟩ = some (.int .i64 a0_7) := (blk_cell BK105.out 7).trans rfl; have hcz90_8 : w88.cell? ⟨gb105, 8, none⟩ = some (.int .i64 a0_8) := (blk_cell BK105.out 8).trans rfl; have hcz90_9 : w88.cell? ⟨gb105, 9, none⟩ = some (.int .u32 a0_9) := (blk_cell BK105.out 9).trans rfl; have hcz90_10 : w88.cell? ⟨gb105, 10, none⟩ = some (.int .i64 a0_10) := (blk_cell BK105.out 10).trans rfl; have hcz90_11 : w88.cell? ⟨gb105, 11, none⟩ = some (.int .i64 a0_11) := (blk_cell BK105.out 11).trans rfl; have hcz90_12 : w88.cell? ⟨gb105, 12, none⟩ = some (.int .u32 (Go.bits .and .u32 a0_12 1)) := (blk_cell BK105.out 12).trans rfl; have hcz90_13 : w88.cell? ⟨gb105, 13, none⟩ = some (.int .u32 (Go.bits .and .u32 a0_13 1)) := (blk_cell BK105.out 13).trans rfl; have hcz90_14 : w88.cell? ⟨gb105, 14, none⟩ = some (.string a0_14) := (blk_cell BK105.out 14).trans rfl; have hcz90_15 : w88.cell? ⟨gb105, 15, none⟩ = some (.string a0_15) := (blk_cell BK105.out 15).trans rfl; have hfz90_0 := blk_frozen BK105.out 0; have hfz90_1 := blk_frozen BK105.out 1; have hfz90_2 := blk_frozen BK105.out 2; have hfz90_3 := blk_frozen BK105.out 3; have hfz90_4 := blk_frozen BK105.out 4; have hfz90_5 := blk_frozen BK105.out 5; have hfz90_6 := blk_frozen BK105.out 6; have hfz90_7 := blk_frozen BK105.out 7; have hfz90_8 := blk_frozen BK105.out 8; have hfz90_9 := blk_frozen BK105.out 9; have hfz90_10 := blk_frozen BK105.out 10; have hfz90_11 := blk_frozen BK105.out 11; have hfz90_12 := blk_frozen BK105.out 12; have hfz90_13 := blk_frozen BK105.out 13; have hfz90_14 := blk_frozen BK105.out 14; have hfz90_15 := blk_frozen BK105.out 15) | (go_at_call 30; (with_reducible refine (clash_Of.calls kj74 a0_0 (Go.bits .and .u32 a0_1 1) (Go.bits .and .u32 a0_2 1) a0_3 a0_4 a0_5 a0_6 a0_7 a0_8 a0_9 a0_10 a0_11 (Go.bits .and .u32 a0_12 1) (Go.bits .and .u32 a0_13 1) a0_14 a0_15 (Go.bits .and .u32 a1 1) (Go.bits .and .u32 a2 1) t115 _ A87.out).mono ?_); rintro e w91 ⟨rfl, hb⟩; have n0_ := Aside0.mk (blk_below (g := gb104) (o := .cells #[.int .i64 a0_0, .int .u32 a0_1, .int .u32 a0_2, .int .u32 a0_3, .int .u32 a0_4, .int .u32 a0_5, .int .u32 a0_6, .int .i64 a0_7, .int .i64 a0_8, .int .u32 a0_9, .int .i64 a0_10, .int .i64 a0_11, .int .u32 a0_12, .int .u32 a0_13, .string a0_14, .string a0_15] 45 (0, 0)) (by (with_reducible repeat (first | refine blk_drewN ?_ _ | refine blk_drew ?_ | refine blk_alloc ?_ _)); exact BK104.out) hb); have n1_ := Aside0.mk (blk_below (g := gb105) (o := .cells #[.int .i64 a0_0, .int .u32 (Go.bits .and .u32 a0_1 1), .int .u32 (Go.bits .and .u32 a0_2 1), .int .u32 a0_3, .int .u32 a0_4, .int .u32 a0_5, .int .u32 a0_6, .int .i64 a0_7, .int .i64 a0_8, .int .u32 a0_9, .int .i64 a0_10, .int .i64 a0_11, .int .u32 (Go.bits .and .u32 a0_12 1), .int .u32 (Go.bits .and .u32 a0_13 1), .string a0_14, .string a0_15] 45 (0, 0)) (by (with_reducible repeat (first | refine blk_drewN ?_ _ | refine blk_drew ?_ | refine blk_alloc ?_ _)); exact BK105.out) hb); have n2_ := Aside0.mk (below_step (by repeat (first | (with_reducible first | exact HB.out | apply below_alloc | apply pw_below_drewN | apply below_drew1 | refine below_set ?_ GE104.out | refine below_set ?_ GE105.out) | exact HB.out)) hb); clear BK104; clear BK105; clear HB; have BK104 := n0_; have BK105 := n1_; have HB := n2_; clear n0_ n1_ n2_; (try clear hb); (try clear hb2); (try clear hk); (try clear hi)))
                        go_ret
                        exact ⟨by first | rfl | (simp [errW_none, errW_some] <;> rfl) | (simp [*, errW_none, errW_some] <;> rfl), by repeat (first | (with_reducible first | exact HB.out | apply below_alloc | apply pw_below_drewN | apply below_drew1 | refine below_set ?_ GE104.out | refine below_set ?_ GE105.out) | exact HB.out)⟩
                      · replace c86 := Bool.eq_false_iff.mpr c86
                        subst c86
                        have H1 : (some false) = some r := by rw [if_neg (show ¬ (false = true) by decide)] at H; exact H
                        clear H
                        have H := H1
                        clear H1
                        obtain rfl := Option.some.inj H
                        go_wp2_with (first | ((with_reducible refine gate_callee (f := 29) rfl ?_); refine goesL_ (some 85) rfl rfl Try.func29 (by kernel_rfl) rfl #[] rfl (by (try simp only [List.map_toArray, List.map_cons, List.map_nil]); first | done | rfl | (simp only [List.length_drop, List.length_take]; rfl)) ?_; (with_reducible refine (crosswaylaw23_awake.calls kj74  false _ A85.out).mono ?_); rintro e w92 ⟨rfl, hb⟩; refine ⟨_, rfl, ?_⟩; have n0_ := Aside0.mk (blk_below (g := gb104) (o := .cells #[.int .i64 a0_0, .int .u32 a0_1, .int .u32 a0_2, .int .u32 a0_3, .int .u32 a0_4, .int .u32 a0_5, .int .u32 a0_6, .int .i64 a0_7, .int .i64 a0_8, .int .u32 a0_9, .int .i64 a0_10, .int .i64 a0_11, .int .u32 a0_12, .int .u32 a0_13, .string a0_14, .string a0_15] 45 (0, 0)) (by (with_reducible repeat (first | refine blk_drewN ?_ _ | refine blk_drew ?_ | refine blk_alloc ?_ _)); exact BK104.out) hb); have n1_ := Aside0.mk (blk_below (g := gb105) (o := .cells #[.int .i64 a0_0, .int .u32 (Go.bits .and .u32 a0_1 1), .int .u32 (Go.bits .and .u32 a0_2 1), .int .u32 a0_3, .int .u32 a0_4, .int .u32 a0_5, .int .u32 a0_6, .int .i64 a0_7, .int .i64 a0_8, .int .u32 a0_9, .int .i64 a0_10, .int .i64 a0_11, .int .u32 (Go.bits .and .u32 a0_12 1), .int .u32 (Go.bits .and .u32 a0_13 1), .string a0_14, .string a0_15] 45 (0, 0)) (by (with_reducible repeat (first | refine blk_drewN ?_ _ | refine blk_drew ?_ | refine blk_alloc ?_ _)); exact BK105.out) hb); have n2_ := Aside0.mk (below_step (by repeat (first | (with_reducible first | exact HB.out | apply below_alloc | apply pw_below_drewN | apply below_drew1 | refine below_set ?_ GE104.out | refine below_set ?_ GE105.out) | exact HB.out)) hb); clear BK104; clear BK105; clear HB; have BK104 := n0_; have BK105 := n1_; have HB := n2_; clear n0_ n1_ n2_; (try clear hb); (try clear hb2); (try clear hk); (try clear hi)))
                        go_ret
                        exact ⟨by first | rfl | (simp [errW_none, errW_some] <;> rfl) | (simp [*, errW_none, errW_some] <;> rfl), by repeat (first | (with_reducible first | exact HB.out | apply below_alloc | apply pw_below_drewN | apply below_drew1 | refine below_set ?_ GE104.out | refine below_set ?_ GE105.out) | exact HB.out)⟩
                    · replace c84 := Bool.eq_false_iff.mpr c84
                      subst c84
                      have H1 : ((crosswaylaw23_awake.f kj74).bind fun t116 => (if t116 = true then ((clash_Of.f kj74 a0_0 (Go.bits .and .u32 a0_1 1) (Go.bits .and .u32 a0_2 1) a0_3 a0_4 a0_5 a0_6 a0_7 a0_8 a0_9 a0_10 a0_11 (Go.bits .and .u32 a0_12 1) (Go.bits .and .u32 a0_13 1) a0_14 a0_15 (Go.bits .and .u32 a1 1) (Go.bits .and .u32 a2 1)).bind fun t117 => (some (t117 == 0))) else (some false))) = some r := by rw [if_neg (show ¬ (false = true) by decide)] at H; exact H
                      clear H
                      have H := H1
                      clear H1
                      replace H := Option.bind_eq_some_iff.mp H
                      obtain ⟨t116, A930, H⟩ := H
                      replace H : (if t116 = true then ((clash_Of.f kj74 a0_0 (Go.bits .and .u32 a0_1 1) (Go.bits .and .u32 a0_2 1) a0_3 a0_4 a0_5 a0_6 a0_7 a0_8 a0_9 a0_10 a0_11 (Go.bits .and .u32 a0_12 1) (Go.bits .and .u32 a0_13 1) a0_14 a0_15 (Go.bits .and .u32 a1 1) (Go.bits .and .u32 a2 1)).bind fun t117 => (some (t117 == 0))) else (some false)) = some r := H
                      have A93 := Aside0.mk A930
                      clear A930
                      by_cases c94 : t116 = true
                      · subst c94
                        have H1 : ((clash_Of.f kj74 a0_0 (Go.bits .and .u32 a0_1 1) (Go.bits .and .u32 a0_2 1) a0_3 a0_4 a0_5 a0_6 a0_7 a0_8 a0_9 a0_10 a0_11 (Go.bits .and .u32 a0_12 1) (Go.bits .and .u32 a0_13 1) a0_14 a0_15 (Go.bits .and .u32 a1 1) (Go.bits .and .u32 a2 1)).bind fun t117 => (some (t117 == 0))) = some r := by rw [if_pos rfl] at H; exact H
                        clear H
                        have H := H1
                        clear H1
                        replace H := Option.bind_eq_some_iff.mp H
                        obtain ⟨t117, A950, H⟩ := H
                        replace H : (some (t117 == 0)) = some r := H
                        have A95 := Aside0.mk A950
                        clear A950
                        obtain rfl := Option.some.inj H
                        go_wp2_with (first | ((with_reducible refine gate_callee (f := 29) rfl ?_); refine goesL_ (some 85) rfl rfl Try.func29 (by kernel_rfl) rfl #[] rfl (by (try simp only [List.map_toArray, List.map_cons, List.map_nil]); first | done | rfl | (simp only [List.length_drop, List.length_take]; rfl)) ?_; (with_reducible refine (crosswaylaw23_awake.calls kj74  true _ A93.out).mono ?_); rintro e w96 ⟨rfl, hb⟩; refine ⟨_, rfl, ?_⟩; have n0_ := Aside0.mk (blk_below (g := gb104) (o := .cells #[.int .i64 a0_0, .int .u32 a0_1, .int .u32 a0_2, .int .u32 a0_3, .int .u32 a0_4, .int .u32 a0_5, .int .u32 a0_6, .int .i64 a0_7, .int .i64 a0_8, .int .u32 a0_9, .int .i64 a0_10, .int .i64 a0_11, .int .u32 a0_12, .int .u32 a0_13, .string a0_14, .string a0_15] 45 (0, 0)) (by (with_reducible repeat (first | refine blk_drewN ?_ _ | refine blk_drew ?_ | refine blk_alloc ?_ _)); exact BK104.out) hb); have n1_ := Aside0.mk (blk_below (g := gb105) (o := .cells #[.int .i64 a0_0, .int .u32 (Go.bits .and .u32 a0_1 1), .int .u32 (Go.bits .and .u32 a0_2 1), .int .u32 a0_3, .int .u32 a0_4, .int .u32 a0_5, .int .u32 a0_6, .int .i64 a0_7, .int .i64 a0_8, .int .u32 a0_9, .int .i64 a0_10, .int .i64 a0_11, .int .u32 (Go.bits .and .u32 a0_12 1), .int .u32 (Go.bits .and .u32 a0_13 1), .string a0_14, .string a0_15] 45 (0, 0)) (by (with_reducible repeat (first | refine blk_drewN ?_ _ | refine blk_drew ?_ | refine blk_alloc ?_ _)); exact BK105.out) hb); have n2_ := Aside0.mk (below_step (by repeat (first | (with_reducible first | exact HB.out | apply below_alloc | apply pw_below_drewN | apply below_drew1 | refine below_set ?_ GE104.out | refine below_set ?_ GE105.out) | exact HB.out)) hb); clear BK104; clear BK105; clear HB; have BK104 := n0_; have BK105 := n1_; have HB := n2_; clear n0_ n1_ n2_; (try clear hb); (try clear hb2); (try clear hk); (try clear hi); have hnb97 := NB105_104.out; have hnc97 := NB104_105.out; have hcz98_0 : w96.cell? ⟨gb105, 0, none⟩ = some (.int .i64 a0_0) := (blk_cell BK105.out 0).trans rfl; have hcz98_1 : w96.cell? ⟨gb105, 1, none⟩ = some (.int .u32 (Go.bits .and .u32 a0_1 1)) := (blk_cell BK105.out 1).trans rfl; have hcz98_2 : w96.cell? ⟨gb105, 2, none⟩ = some (.int .u32 (Go.bits .and .u32 a0_2 1)) := (blk_cell BK105.out 2).trans rfl; have hcz98_3 : w96.cell? ⟨gb105, 3, none⟩ = some (.int .u32 a0_3) := (blk_cell BK105.out 3).trans rfl; have hcz98_4 : w96.cell? ⟨gb105, 4, none⟩ = some (.int .u32 a0_4) := (blk_cell BK105.out 4).trans rfl; have hcz98_5 : w96.cell? ⟨gb105, 5, none⟩ = some (.int .u32 a0_5) := (blk_cell BK105.out 5).trans rfl; have hcz98_6 : w96.cell? ⟨gb105, 6, none⟩ = some (.int .u32 a0_6) := (blk_cell BK105.out 6).trans rfl; have hcz98_7 : w96.cell? ⟨gb105, 7, none⟩ = some (.int .i64 a0_7) := (blk_cell BK105.out 7).trans rfl; have hcz98_8 : w96.cell? ⟨gb105, 8, none⟩ = some (.int .i64 a0_8) := (blk_cell BK105.out 8).trans rfl; have hcz98_9 : w96.cell? ⟨gb105, 9, none⟩ = some (.int .u32 a0_9) := (blk_cell BK105.out 9).trans rfl; have hcz98_10 : w96.cell? ⟨gb105, 10, none⟩ = some (.int .i64 a0_10) := (blk_cell BK105.out 10).trans rfl; have hcz98_11 : w96.cell? ⟨gb105, 11, none⟩ = some (.int .i64 a0_11) := (blk_cell BK105.out 11).trans rfl; have hcz98_12 : w96.cell? ⟨gb105, 12, none⟩ = some (.int .u32 (Go.bits .and .u32 a0_12 1)) := (blk_cell BK105.out 12).trans rfl; have hcz98_13 : w96.cell? ⟨gb105, 13, none⟩ = some (.int .u32 (Go.bits .and .u32 a0_13 1)) := (blk_cell BK105.out 13).trans rfl; have hcz98_14 : w96.cell? ⟨gb105, 14, none⟩ = some (.string a0_14) := (blk_cell BK105.out 14).trans rfl; have hcz98_15 : w96.cell? ⟨gb105, 15, none⟩ = some (.string a0_15) := (blk_cell BK105.out 15).trans rfl; have hfz98_0 := blk_frozen BK105.out 0; have hfz98_1 := blk_frozen BK105.out 1; have hfz98_2 := blk_frozen BK105.out 2; have hfz98_3 := blk_frozen BK105.out 3; have hfz98_4 := blk_frozen BK105.out 4; have hfz98_5 := blk_frozen BK105.out 5; have hfz98_6 := blk_frozen BK105.out 6; have hfz98_7 := blk_frozen BK105.out 7; have hfz98_8 := blk_frozen BK105.out 8; have hfz98_9 := blk_frozen BK105.out 9; have hfz98_10 := blk_frozen BK105.out 10; have hfz98_11 := blk_frozen BK105.out 11; have hfz98_12 := blk_frozen BK105.out 12; have hfz98_13 := blk_frozen BK105.out 13; have hfz98_14 := blk_frozen BK105.out 14; have hfz98_15 := blk_frozen BK105.out 15) | (go_at_call 30; (with_reducible refine (clash_Of.calls kj74 a0_0 (Go.bits .and .u32 a0_1 1) (Go.bits .and .u32 a0_2 1) a0_3 a0_4 a0_5 a0_6 a0_7 a0_8 a0_9 a0_10 a0_11 (Go.bits .and .u32 a0_12 1) (Go.bits .and .u32 a0_13 1) a0_14 a0_15 (Go.bits .and .u32 a1 1) (Go.bits .and .u32 a2 1) t117 _ A95.out).mono ?_); rintro e w99 ⟨rfl, hb⟩; have n0_ := Aside0.mk (blk_below (g := gb104) (o := .cells #[.int .i64 a0_0, .int .u32 a0_1, .int .u32 a0_2, .int .u32 a0_3, .int .u32 a0_4, .int .u32 a0_5, .int .u32 a0_6, .int .i64 a0_7, .int .i64 a0_8, .int .u32 a0_9, .int .i64 a0_10, .int .i64 a0_11, .int .u32 a0_12, .int .u32 a0_13, .string a0_14, .string a0_15] 45 (0, 0)) (by (with_reducible repeat (first | refine blk_drewN ?_ _ | refine blk_drew ?_ | refine blk_alloc ?_ _)); exact BK104.out) hb); have n1_ := Aside0.mk (blk_below (g := gb105) (o := .cells #[.int .i64 a0_0, .int .u32 (Go.bits .and .u32 a0_1 1), .int .u32 (Go.bits .and .u32 a0_2 1), .int .u32 a0_3, .int .u32 a0_4, .int .u32 a0_5, .int .u32 a0_6, .int .i64 a0_7, .int .i64 a0_8, .int .u32 a0_9, .int .i64 a0_10, .int .i64 a0_11, .int .u32 (Go.bits .and .u32 a0_12 1), .int .u32 (Go.bits .and .u32 a0_13 1), .string a0_14, .string a0_15] 45 (0, 0)) (by (with_reducible repeat (first | refine blk_drewN ?_ _ | refine blk_drew ?_ | refine blk_alloc ?_ _)); exact BK105.out) hb); have n2_ := Aside0.mk (below_step (by repeat (first | (with_reducible first | exact HB.out | apply below_alloc | apply pw_below_drewN | apply below_drew1 | refine below_set ?_ GE104.out | refine below_set ?_ GE105.out) | exact HB.out)) hb); clear BK104; clear BK105; clear HB; have BK104 := n0_; have BK105 := n1_; have HB := n2_; clear n0_ n1_ n2_; (try clear hb); (try clear hb2); (try clear hk); (try clear hi)))
                        go_ret
                        exact ⟨by first | rfl | (simp [errW_none, errW_some] <;> rfl) | (simp [*, errW_none, errW_some] <;> rfl), by repeat (first | (with_reducible first | exact HB.out | apply below_alloc | apply pw_below_drewN | apply below_drew1 | refine below_set ?_ GE104.out | refine below_set ?_ GE105.out) | exact HB.out)⟩
                      · replace c94 := Bool.eq_false_iff.mpr c94
                        subst c94
                        have H1 : (some false) = some r := by rw [if_neg (show ¬ (false = true) by decide)] at H; exact H
                        clear H
                        have H := H1
                        clear H1
                        obtain rfl := Option.some.inj H
                        go_wp2_with (first | ((with_reducible refine gate_callee (f := 29) rfl ?_); refine goesL_ (some 85) rfl rfl Try.func29 (by kernel_rfl) rfl #[] rfl (by (try simp only [List.map_toArray, List.map_cons, List.map_nil]); first | done | rfl | (simp only [List.length_drop, List.length_take]; rfl)) ?_; (with_reducible refine (crosswaylaw23_awake.calls kj74  false _ A93.out).mono ?_); rintro e w100 ⟨rfl, hb⟩; refine ⟨_, rfl, ?_⟩; have n0_ := Aside0.mk (blk_below (g := gb104) (o := .cells #[.int .i64 a0_0, .int .u32 a0_1, .int .u32 a0_2, .int .u32 a0_3, .int .u32 a0_4, .int .u32 a0_5, .int .u32 a0_6, .int .i64 a0_7, .int .i64 a0_8, .int .u32 a0_9, .int .i64 a0_10, .int .i64 a0_11, .int .u32 a0_12, .int .u32 a0_13, .string a0_14, .string a0_15] 45 (0, 0)) (by (with_reducible repeat (first | refine blk_drewN ?_ _ | refine blk_drew ?_ | refine blk_alloc ?_ _)); exact BK104.out) hb); have n1_ := Aside0.mk (blk_below (g := gb105) (o := .cells #[.int .i64 a0_0, .int .u32 (Go.bits .and .u32 a0_1 1), .int .u32 (Go.bits .and .u32 a0_2 1), .int .u32 a0_3, .int .u32 a0_4, .int .u32 a0_5, .int .u32 a0_6, .int .i64 a0_7, .int .i64 a0_8, .int .u32 a0_9, .int .i64 a0_10, .int .i64 a0_11, .int .u32 (Go.bits .and .u32 a0_12 1), .int .u32 (Go.bits .and .u32 a0_13 1), .string a0_14, .string a0_15] 45 (0, 0)) (by (with_reducible repeat (first | refine blk_drewN ?_ _ | refine blk_drew ?_ | refine blk_alloc ?_ _)); exact BK105.out) hb); have n2_ := Aside0.mk (below_step (by repeat (first | (with_reducible first | exact HB.out | apply below_alloc | apply pw_below_drewN | apply below_drew1 | refine below_set ?_ GE104.out | refine below_set ?_ GE105.out) | exact HB.out)) hb); clear BK104; clear BK105; clear HB; have BK104 := n0_; have BK105 := n1_; have HB := n2_; clear n0_ n1_ n2_; (try clear hb); (try clear hb2); (try clear hk); (try clear hi)))
                        go_ret
                        exact ⟨by first | rfl | (simp [errW_none, errW_some] <;> rfl) | (simp [*, errW_none, errW_some] <;> rfl), by repeat (first | (with_reducible first | exact HB.out | apply below_alloc | apply pw_below_drewN | apply below_drew1 | refine below_set ?_ GE104.out | refine below_set ?_ GE105.out) | exact HB.out)⟩

end Go.Proofs.Ythddflcjmlefeaa.PClashOf
