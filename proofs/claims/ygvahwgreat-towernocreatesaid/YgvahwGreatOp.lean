import Derived.Test.YgvahwGreatMj
import Derived.Test.YgvahwGreatMi
import Derived.Test.YgvahwGreatMf
import Derived.Test.YgvahwGreatMe
namespace Go.Proofs.YgvahwGreat
set_option linter.unusedSimpArgs false
section
variable {st : ASt} {f : AFrame}
theorem bs_0 : st.bareCost f 0 = sgasA 0 + dynA st f 0 := by
  simp [ASt.bareCost, sgasA, dynA, ASt.enterCost, ASt.destroyCost, famA, expCostA]
theorem bs_1 : st.bareCost f 1 = sgasA 1 + dynA st f 1 := by
  simp [ASt.bareCost, sgasA, dynA, ASt.enterCost, ASt.destroyCost, famA, expCostA]
theorem bs_2 : st.bareCost f 2 = sgasA 2 + dynA st f 2 := by
  simp [ASt.bareCost, sgasA, dynA, ASt.enterCost, ASt.destroyCost, famA, expCostA]
theorem bs_3 : st.bareCost f 3 = sgasA 3 + dynA st f 3 := by
  simp [ASt.bareCost, sgasA, dynA, ASt.enterCost, ASt.destroyCost, famA, expCostA]
theorem bs_4 : st.bareCost f 4 = sgasA 4 + dynA st f 4 := by
  simp [ASt.bareCost, sgasA, dynA, ASt.enterCost, ASt.destroyCost, famA, expCostA]
theorem bs_5 : st.bareCost f 5 = sgasA 5 + dynA st f 5 := by
  simp [ASt.bareCost, sgasA, dynA, ASt.enterCost, ASt.destroyCost, famA, expCostA]
theorem bs_6 : st.bareCost f 6 = sgasA 6 + dynA st f 6 := by
  simp [ASt.bareCost, sgasA, dynA, ASt.enterCost, ASt.destroyCost, famA, expCostA]
theorem bs_7 : st.bareCost f 7 = sgasA 7 + dynA st f 7 := by
  simp [ASt.bareCost, sgasA, dynA, ASt.enterCost, ASt.destroyCost, famA, expCostA]
theorem bs_8 : st.bareCost f 8 = sgasA 8 + dynA st f 8 := by
  simp [ASt.bareCost, sgasA, dynA, ASt.enterCost, ASt.destroyCost, famA, expCostA]
theorem bs_9 : st.bareCost f 9 = sgasA 9 + dynA st f 9 := by
  simp [ASt.bareCost, sgasA, dynA, ASt.enterCost, ASt.destroyCost, famA, expCostA]
theorem bs_10 : st.bareCost f 10 = sgasA 10 + dynA st f 10 := by
  simp [ASt.bareCost, sgasA, dynA, ASt.enterCost, ASt.destroyCost, famA, expCostA]
theorem bs_11 : st.bareCost f 11 = sgasA 11 + dynA st f 11 := by
  simp [ASt.bareCost, sgasA, dynA, ASt.enterCost, ASt.destroyCost, famA, expCostA]
theorem bs_16 : st.bareCost f 16 = sgasA 16 + dynA st f 16 := by
  simp [ASt.bareCost, sgasA, dynA, ASt.enterCost, ASt.destroyCost, famA, expCostA]
theorem bs_17 : st.bareCost f 17 = sgasA 17 + dynA st f 17 := by
  simp [ASt.bareCost, sgasA, dynA, ASt.enterCost, ASt.destroyCost, famA, expCostA]
theorem bs_18 : st.bareCost f 18 = sgasA 18 + dynA st f 18 := by
  simp [ASt.bareCost, sgasA, dynA, ASt.enterCost, ASt.destroyCost, famA, expCostA]
theorem bs_19 : st.bareCost f 19 = sgasA 19 + dynA st f 19 := by
  simp [ASt.bareCost, sgasA, dynA, ASt.enterCost, ASt.destroyCost, famA, expCostA]
theorem bs_20 : st.bareCost f 20 = sgasA 20 + dynA st f 20 := by
  simp [ASt.bareCost, sgasA, dynA, ASt.enterCost, ASt.destroyCost, famA, expCostA]
theorem bs_21 : st.bareCost f 21 = sgasA 21 + dynA st f 21 := by
  simp [ASt.bareCost, sgasA, dynA, ASt.enterCost, ASt.destroyCost, famA, expCostA]
theorem bs_22 : st.bareCost f 22 = sgasA 22 + dynA st f 22 := by
  simp [ASt.bareCost, sgasA, dynA, ASt.enterCost, ASt.destroyCost, famA, expCostA]
theorem bs_23 : st.bareCost f 23 = sgasA 23 + dynA st f 23 := by
  simp [ASt.bareCost, sgasA, dynA, ASt.enterCost, ASt.destroyCost, famA, expCostA]
theorem bs_24 : st.bareCost f 24 = sgasA 24 + dynA st f 24 := by
  simp [ASt.bareCost, sgasA, dynA, ASt.enterCost, ASt.destroyCost, famA, expCostA]
theorem bs_25 : st.bareCost f 25 = sgasA 25 + dynA st f 25 := by
  simp [ASt.bareCost, sgasA, dynA, ASt.enterCost, ASt.destroyCost, famA, expCostA]
theorem bs_26 : st.bareCost f 26 = sgasA 26 + dynA st f 26 := by
  simp [ASt.bareCost, sgasA, dynA, ASt.enterCost, ASt.destroyCost, famA, expCostA]
theorem bs_27 : st.bareCost f 27 = sgasA 27 + dynA st f 27 := by
  simp [ASt.bareCost, sgasA, dynA, ASt.enterCost, ASt.destroyCost, famA, expCostA]
theorem bs_28 : st.bareCost f 28 = sgasA 28 + dynA st f 28 := by
  simp [ASt.bareCost, sgasA, dynA, ASt.enterCost, ASt.destroyCost, famA, expCostA]
theorem bs_29 : st.bareCost f 29 = sgasA 29 + dynA st f 29 := by
  simp [ASt.bareCost, sgasA, dynA, ASt.enterCost, ASt.destroyCost, famA, expCostA]
theorem bs_32 : st.bareCost f 32 = sgasA 32 + dynA st f 32 := by
  simp [ASt.bareCost, sgasA, dynA, ASt.enterCost, ASt.destroyCost, famA, expCostA]
theorem bs_48 : st.bareCost f 48 = sgasA 48 + dynA st f 48 := by
  simp [ASt.bareCost, sgasA, dynA, ASt.enterCost, ASt.destroyCost, famA, expCostA]
theorem bs_49 : st.bareCost f 49 = sgasA 49 + dynA st f 49 := by
  simp [ASt.bareCost, sgasA, dynA, ASt.enterCost, ASt.destroyCost, famA, expCostA]
theorem bs_50 : st.bareCost f 50 = sgasA 50 + dynA st f 50 := by
  simp [ASt.bareCost, sgasA, dynA, ASt.enterCost, ASt.destroyCost, famA, expCostA]
theorem bs_51 : st.bareCost f 51 = sgasA 51 + dynA st f 51 := by
  simp [ASt.bareCost, sgasA, dynA, ASt.enterCost, ASt.destroyCost, famA, expCostA]
theorem bs_52 : st.bareCost f 52 = sgasA 52 + dynA st f 52 := by
  simp [ASt.bareCost, sgasA, dynA, ASt.enterCost, ASt.destroyCost, famA, expCostA]
theorem bs_53 : st.bareCost f 53 = sgasA 53 + dynA st f 53 := by
  simp [ASt.bareCost, sgasA, dynA, ASt.enterCost, ASt.destroyCost, famA, expCostA]
theorem bs_54 : st.bareCost f 54 = sgasA 54 + dynA st f 54 := by
  simp [ASt.bareCost, sgasA, dynA, ASt.enterCost, ASt.destroyCost, famA, expCostA]
theorem bs_55 : st.bareCost f 55 = sgasA 55 + dynA st f 55 := by
  simp [ASt.bareCost, sgasA, dynA, ASt.enterCost, ASt.destroyCost, famA, expCostA]
theorem bs_56 : st.bareCost f 56 = sgasA 56 + dynA st f 56 := by
  simp [ASt.bareCost, sgasA, dynA, ASt.enterCost, ASt.destroyCost, famA, expCostA]
theorem bs_57 : st.bareCost f 57 = sgasA 57 + dynA st f 57 := by
  simp [ASt.bareCost, sgasA, dynA, ASt.enterCost, ASt.destroyCost, famA, expCostA]
theorem bs_58 : st.bareCost f 58 = sgasA 58 + dynA st f 58 := by
  simp [ASt.bareCost, sgasA, dynA, ASt.enterCost, ASt.destroyCost, famA, expCostA]
theorem bs_59 : st.bareCost f 59 = sgasA 59 + dynA st f 59 := by
  simp [ASt.bareCost, sgasA, dynA, ASt.enterCost, ASt.destroyCost, famA, expCostA]
theorem bs_60 : st.bareCost f 60 = sgasA 60 + dynA st f 60 := by
  simp [ASt.bareCost, sgasA, dynA, ASt.enterCost, ASt.destroyCost, famA, expCostA]
theorem bs_61 : st.bareCost f 61 = sgasA 61 + dynA st f 61 := by
  simp [ASt.bareCost, sgasA, dynA, ASt.enterCost, ASt.destroyCost, famA, expCostA]
theorem bs_62 : st.bareCost f 62 = sgasA 62 + dynA st f 62 := by
  simp [ASt.bareCost, sgasA, dynA, ASt.enterCost, ASt.destroyCost, famA, expCostA]
theorem bs_63 : st.bareCost f 63 = sgasA 63 + dynA st f 63 := by
  simp [ASt.bareCost, sgasA, dynA, ASt.enterCost, ASt.destroyCost, famA, expCostA]
theorem bs_64 : st.bareCost f 64 = sgasA 64 + dynA st f 64 := by
  simp [ASt.bareCost, sgasA, dynA, ASt.enterCost, ASt.destroyCost, famA, expCostA]
theorem bs_65 : st.bareCost f 65 = sgasA 65 + dynA st f 65 := by
  simp [ASt.bareCost, sgasA, dynA, ASt.enterCost, ASt.destroyCost, famA, expCostA]
theorem bs_66 : st.bareCost f 66 = sgasA 66 + dynA st f 66 := by
  simp [ASt.bareCost, sgasA, dynA, ASt.enterCost, ASt.destroyCost, famA, expCostA]
theorem bs_67 : st.bareCost f 67 = sgasA 67 + dynA st f 67 := by
  simp [ASt.bareCost, sgasA, dynA, ASt.enterCost, ASt.destroyCost, famA, expCostA]
theorem bs_68 : st.bareCost f 68 = sgasA 68 + dynA st f 68 := by
  simp [ASt.bareCost, sgasA, dynA, ASt.enterCost, ASt.destroyCost, famA, expCostA]
theorem bs_69 : st.bareCost f 69 = sgasA 69 + dynA st f 69 := by
  simp [ASt.bareCost, sgasA, dynA, ASt.enterCost, ASt.destroyCost, famA, expCostA]
theorem bs_70 : st.bareCost f 70 = sgasA 70 + dynA st f 70 := by
  simp [ASt.bareCost, sgasA, dynA, ASt.enterCost, ASt.destroyCost, famA, expCostA]
theorem bs_71 : st.bareCost f 71 = sgasA 71 + dynA st f 71 := by
  simp [ASt.bareCost, sgasA, dynA, ASt.enterCost, ASt.destroyCost, famA, expCostA]
theorem bs_72 : st.bareCost f 72 = sgasA 72 + dynA st f 72 := by
  simp [ASt.bareCost, sgasA, dynA, ASt.enterCost, ASt.destroyCost, famA, expCostA]
theorem bs_80 : st.bareCost f 80 = sgasA 80 + dynA st f 80 := by
  simp [ASt.bareCost, sgasA, dynA, ASt.enterCost, ASt.destroyCost, famA, expCostA]
theorem bs_81 : st.bareCost f 81 = sgasA 81 + dynA st f 81 := by
  simp [ASt.bareCost, sgasA, dynA, ASt.enterCost, ASt.destroyCost, famA, expCostA]
theorem bs_82 : st.bareCost f 82 = sgasA 82 + dynA st f 82 := by
  simp [ASt.bareCost, sgasA, dynA, ASt.enterCost, ASt.destroyCost, famA, expCostA]
theorem bs_83 : st.bareCost f 83 = sgasA 83 + dynA st f 83 := by
  simp [ASt.bareCost, sgasA, dynA, ASt.enterCost, ASt.destroyCost, famA, expCostA]
theorem bs_84 : st.bareCost f 84 = sgasA 84 + dynA st f 84 := by
  simp [ASt.bareCost, sgasA, dynA, ASt.enterCost, ASt.destroyCost, famA, expCostA]
theorem bs_85 : st.bareCost f 85 = sgasA 85 + dynA st f 85 := by
  simp [ASt.bareCost, sgasA, dynA, ASt.enterCost, ASt.destroyCost, famA, expCostA]
theorem bs_86 : st.bareCost f 86 = sgasA 86 + dynA st f 86 := by
  simp [ASt.bareCost, sgasA, dynA, ASt.enterCost, ASt.destroyCost, famA, expCostA]
theorem bs_87 : st.bareCost f 87 = sgasA 87 + dynA st f 87 := by
  simp [ASt.bareCost, sgasA, dynA, ASt.enterCost, ASt.destroyCost, famA, expCostA]
theorem bs_88 : st.bareCost f 88 = sgasA 88 + dynA st f 88 := by
  simp [ASt.bareCost, sgasA, dynA, ASt.enterCost, ASt.destroyCost, famA, expCostA]
theorem bs_89 : st.bareCost f 89 = sgasA 89 + dynA st f 89 := by
  simp [ASt.bareCost, sgasA, dynA, ASt.enterCost, ASt.destroyCost, famA, expCostA]
theorem bs_90 : st.bareCost f 90 = sgasA 90 + dynA st f 90 := by
  simp [ASt.bareCost, sgasA, dynA, ASt.enterCost, ASt.destroyCost, famA, expCostA]
theorem bs_91 : st.bareCost f 91 = sgasA 91 + dynA st f 91 := by
  simp [ASt.bareCost, sgasA, dynA, ASt.enterCost, ASt.destroyCost, famA, expCostA]
theorem bs_92 : st.bareCost f 92 = sgasA 92 + dynA st f 92 := by
  simp [ASt.bareCost, sgasA, dynA, ASt.enterCost, ASt.destroyCost, famA, expCostA]
theorem bs_93 : st.bareCost f 93 = sgasA 93 + dynA st f 93 := by
  simp [ASt.bareCost, sgasA, dynA, ASt.enterCost, ASt.destroyCost, famA, expCostA]
theorem bs_94 : st.bareCost f 94 = sgasA 94 + dynA st f 94 := by
  simp [ASt.bareCost, sgasA, dynA, ASt.enterCost, ASt.destroyCost, famA, expCostA]
theorem bs_95 : st.bareCost f 95 = sgasA 95 + dynA st f 95 := by
  simp [ASt.bareCost, sgasA, dynA, ASt.enterCost, ASt.destroyCost, famA, expCostA]
theorem bs_96 : st.bareCost f 96 = sgasA 96 + dynA st f 96 := by
  simp [ASt.bareCost, sgasA, dynA, ASt.enterCost, ASt.destroyCost, famA, expCostA]
theorem bs_97 : st.bareCost f 97 = sgasA 97 + dynA st f 97 := by
  simp [ASt.bareCost, sgasA, dynA, ASt.enterCost, ASt.destroyCost, famA, expCostA]
theorem bs_98 : st.bareCost f 98 = sgasA 98 + dynA st f 98 := by
  simp [ASt.bareCost, sgasA, dynA, ASt.enterCost, ASt.destroyCost, famA, expCostA]
theorem bs_99 : st.bareCost f 99 = sgasA 99 + dynA st f 99 := by
  simp [ASt.bareCost, sgasA, dynA, ASt.enterCost, ASt.destroyCost, famA, expCostA]
theorem bs_100 : st.bareCost f 100 = sgasA 100 + dynA st f 100 := by
  simp [ASt.bareCost, sgasA, dynA, ASt.enterCost, ASt.destroyCost, famA, expCostA]
theorem bs_101 : st.bareCost f 101 = sgasA 101 + dynA st f 101 := by
  simp [ASt.bareCost, sgasA, dynA, ASt.enterCost, ASt.destroyCost, famA, expCostA]
theorem bs_102 : st.bareCost f 102 = sgasA 102 + dynA st f 102 := by
  simp [ASt.bareCost, sgasA, dynA, ASt.enterCost, ASt.destroyCost, famA, expCostA]
theorem bs_103 : st.bareCost f 103 = sgasA 103 + dynA st f 103 := by
  simp [ASt.bareCost, sgasA, dynA, ASt.enterCost, ASt.destroyCost, famA, expCostA]
theorem bs_104 : st.bareCost f 104 = sgasA 104 + dynA st f 104 := by
  simp [ASt.bareCost, sgasA, dynA, ASt.enterCost, ASt.destroyCost, famA, expCostA]
theorem bs_105 : st.bareCost f 105 = sgasA 105 + dynA st f 105 := by
  simp [ASt.bareCost, sgasA, dynA, ASt.enterCost, ASt.destroyCost, famA, expCostA]
theorem bs_106 : st.bareCost f 106 = sgasA 106 + dynA st f 106 := by
  simp [ASt.bareCost, sgasA, dynA, ASt.enterCost, ASt.destroyCost, famA, expCostA]
theorem bs_107 : st.bareCost f 107 = sgasA 107 + dynA st f 107 := by
  simp [ASt.bareCost, sgasA, dynA, ASt.enterCost, ASt.destroyCost, famA, expCostA]
theorem bs_108 : st.bareCost f 108 = sgasA 108 + dynA st f 108 := by
  simp [ASt.bareCost, sgasA, dynA, ASt.enterCost, ASt.destroyCost, famA, expCostA]
theorem bs_109 : st.bareCost f 109 = sgasA 109 + dynA st f 109 := by
  simp [ASt.bareCost, sgasA, dynA, ASt.enterCost, ASt.destroyCost, famA, expCostA]
theorem bs_110 : st.bareCost f 110 = sgasA 110 + dynA st f 110 := by
  simp [ASt.bareCost, sgasA, dynA, ASt.enterCost, ASt.destroyCost, famA, expCostA]
theorem bs_111 : st.bareCost f 111 = sgasA 111 + dynA st f 111 := by
  simp [ASt.bareCost, sgasA, dynA, ASt.enterCost, ASt.destroyCost, famA, expCostA]
theorem bs_112 : st.bareCost f 112 = sgasA 112 + dynA st f 112 := by
  simp [ASt.bareCost, sgasA, dynA, ASt.enterCost, ASt.destroyCost, famA, expCostA]
theorem bs_113 : st.bareCost f 113 = sgasA 113 + dynA st f 113 := by
  simp [ASt.bareCost, sgasA, dynA, ASt.enterCost, ASt.destroyCost, famA, expCostA]
theorem bs_114 : st.bareCost f 114 = sgasA 114 + dynA st f 114 := by
  simp [ASt.bareCost, sgasA, dynA, ASt.enterCost, ASt.destroyCost, famA, expCostA]
theorem bs_115 : st.bareCost f 115 = sgasA 115 + dynA st f 115 := by
  simp [ASt.bareCost, sgasA, dynA, ASt.enterCost, ASt.destroyCost, famA, expCostA]
theorem bs_116 : st.bareCost f 116 = sgasA 116 + dynA st f 116 := by
  simp [ASt.bareCost, sgasA, dynA, ASt.enterCost, ASt.destroyCost, famA, expCostA]
theorem bs_117 : st.bareCost f 117 = sgasA 117 + dynA st f 117 := by
  simp [ASt.bareCost, sgasA, dynA, ASt.enterCost, ASt.destroyCost, famA, expCostA]
theorem bs_118 : st.bareCost f 118 = sgasA 118 + dynA st f 118 := by
  simp [ASt.bareCost, sgasA, dynA, ASt.enterCost, ASt.destroyCost, famA, expCostA]
theorem bs_119 : st.bareCost f 119 = sgasA 119 + dynA st f 119 := by
  simp [ASt.bareCost, sgasA, dynA, ASt.enterCost, ASt.destroyCost, famA, expCostA]
theorem bs_120 : st.bareCost f 120 = sgasA 120 + dynA st f 120 := by
  simp [ASt.bareCost, sgasA, dynA, ASt.enterCost, ASt.destroyCost, famA, expCostA]
theorem bs_121 : st.bareCost f 121 = sgasA 121 + dynA st f 121 := by
  simp [ASt.bareCost, sgasA, dynA, ASt.enterCost, ASt.destroyCost, famA, expCostA]
theorem bs_122 : st.bareCost f 122 = sgasA 122 + dynA st f 122 := by
  simp [ASt.bareCost, sgasA, dynA, ASt.enterCost, ASt.destroyCost, famA, expCostA]
theorem bs_123 : st.bareCost f 123 = sgasA 123 + dynA st f 123 := by
  simp [ASt.bareCost, sgasA, dynA, ASt.enterCost, ASt.destroyCost, famA, expCostA]
theorem bs_124 : st.bareCost f 124 = sgasA 124 + dynA st f 124 := by
  simp [ASt.bareCost, sgasA, dynA, ASt.enterCost, ASt.destroyCost, famA, expCostA]
theorem bs_125 : st.bareCost f 125 = sgasA 125 + dynA st f 125 := by
  simp [ASt.bareCost, sgasA, dynA, ASt.enterCost, ASt.destroyCost, famA, expCostA]
theorem bs_126 : st.bareCost f 126 = sgasA 126 + dynA st f 126 := by
  simp [ASt.bareCost, sgasA, dynA, ASt.enterCost, ASt.destroyCost, famA, expCostA]
theorem bs_127 : st.bareCost f 127 = sgasA 127 + dynA st f 127 := by
  simp [ASt.bareCost, sgasA, dynA, ASt.enterCost, ASt.destroyCost, famA, expCostA]
theorem bs_128 : st.bareCost f 128 = sgasA 128 + dynA st f 128 := by
  simp [ASt.bareCost, sgasA, dynA, ASt.enterCost, ASt.destroyCost, famA, expCostA]
theorem bs_129 : st.bareCost f 129 = sgasA 129 + dynA st f 129 := by
  simp [ASt.bareCost, sgasA, dynA, ASt.enterCost, ASt.destroyCost, famA, expCostA]
theorem bs_130 : st.bareCost f 130 = sgasA 130 + dynA st f 130 := by
  simp [ASt.bareCost, sgasA, dynA, ASt.enterCost, ASt.destroyCost, famA, expCostA]
theorem bs_131 : st.bareCost f 131 = sgasA 131 + dynA st f 131 := by
  simp [ASt.bareCost, sgasA, dynA, ASt.enterCost, ASt.destroyCost, famA, expCostA]
theorem bs_132 : st.bareCost f 132 = sgasA 132 + dynA st f 132 := by
  simp [ASt.bareCost, sgasA, dynA, ASt.enterCost, ASt.destroyCost, famA, expCostA]
theorem bs_133 : st.bareCost f 133 = sgasA 133 + dynA st f 133 := by
  simp [ASt.bareCost, sgasA, dynA, ASt.enterCost, ASt.destroyCost, famA, expCostA]
theorem bs_134 : st.bareCost f 134 = sgasA 134 + dynA st f 134 := by
  simp [ASt.bareCost, sgasA, dynA, ASt.enterCost, ASt.destroyCost, famA, expCostA]
theorem bs_135 : st.bareCost f 135 = sgasA 135 + dynA st f 135 := by
  simp [ASt.bareCost, sgasA, dynA, ASt.enterCost, ASt.destroyCost, famA, expCostA]
theorem bs_136 : st.bareCost f 136 = sgasA 136 + dynA st f 136 := by
  simp [ASt.bareCost, sgasA, dynA, ASt.enterCost, ASt.destroyCost, famA, expCostA]
theorem bs_137 : st.bareCost f 137 = sgasA 137 + dynA st f 137 := by
  simp [ASt.bareCost, sgasA, dynA, ASt.enterCost, ASt.destroyCost, famA, expCostA]
theorem bs_138 : st.bareCost f 138 = sgasA 138 + dynA st f 138 := by
  simp [ASt.bareCost, sgasA, dynA, ASt.enterCost, ASt.destroyCost, famA, expCostA]
theorem bs_139 : st.bareCost f 139 = sgasA 139 + dynA st f 139 := by
  simp [ASt.bareCost, sgasA, dynA, ASt.enterCost, ASt.destroyCost, famA, expCostA]
theorem bs_140 : st.bareCost f 140 = sgasA 140 + dynA st f 140 := by
  simp [ASt.bareCost, sgasA, dynA, ASt.enterCost, ASt.destroyCost, famA, expCostA]
theorem bs_141 : st.bareCost f 141 = sgasA 141 + dynA st f 141 := by
  simp [ASt.bareCost, sgasA, dynA, ASt.enterCost, ASt.destroyCost, famA, expCostA]
theorem bs_142 : st.bareCost f 142 = sgasA 142 + dynA st f 142 := by
  simp [ASt.bareCost, sgasA, dynA, ASt.enterCost, ASt.destroyCost, famA, expCostA]
theorem bs_143 : st.bareCost f 143 = sgasA 143 + dynA st f 143 := by
  simp [ASt.bareCost, sgasA, dynA, ASt.enterCost, ASt.destroyCost, famA, expCostA]
theorem bs_144 : st.bareCost f 144 = sgasA 144 + dynA st f 144 := by
  simp [ASt.bareCost, sgasA, dynA, ASt.enterCost, ASt.destroyCost, famA, expCostA]
theorem bs_145 : st.bareCost f 145 = sgasA 145 + dynA st f 145 := by
  simp [ASt.bareCost, sgasA, dynA, ASt.enterCost, ASt.destroyCost, famA, expCostA]
theorem bs_146 : st.bareCost f 146 = sgasA 146 + dynA st f 146 := by
  simp [ASt.bareCost, sgasA, dynA, ASt.enterCost, ASt.destroyCost, famA, expCostA]
theorem bs_147 : st.bareCost f 147 = sgasA 147 + dynA st f 147 := by
  simp [ASt.bareCost, sgasA, dynA, ASt.enterCost, ASt.destroyCost, famA, expCostA]
theorem bs_148 : st.bareCost f 148 = sgasA 148 + dynA st f 148 := by
  simp [ASt.bareCost, sgasA, dynA, ASt.enterCost, ASt.destroyCost, famA, expCostA]
theorem bs_149 : st.bareCost f 149 = sgasA 149 + dynA st f 149 := by
  simp [ASt.bareCost, sgasA, dynA, ASt.enterCost, ASt.destroyCost, famA, expCostA]
theorem bs_150 : st.bareCost f 150 = sgasA 150 + dynA st f 150 := by
  simp [ASt.bareCost, sgasA, dynA, ASt.enterCost, ASt.destroyCost, famA, expCostA]
theorem bs_151 : st.bareCost f 151 = sgasA 151 + dynA st f 151 := by
  simp [ASt.bareCost, sgasA, dynA, ASt.enterCost, ASt.destroyCost, famA, expCostA]
theorem bs_152 : st.bareCost f 152 = sgasA 152 + dynA st f 152 := by
  simp [ASt.bareCost, sgasA, dynA, ASt.enterCost, ASt.destroyCost, famA, expCostA]
theorem bs_153 : st.bareCost f 153 = sgasA 153 + dynA st f 153 := by
  simp [ASt.bareCost, sgasA, dynA, ASt.enterCost, ASt.destroyCost, famA, expCostA]
theorem bs_154 : st.bareCost f 154 = sgasA 154 + dynA st f 154 := by
  simp [ASt.bareCost, sgasA, dynA, ASt.enterCost, ASt.destroyCost, famA, expCostA]
theorem bs_155 : st.bareCost f 155 = sgasA 155 + dynA st f 155 := by
  simp [ASt.bareCost, sgasA, dynA, ASt.enterCost, ASt.destroyCost, famA, expCostA]
theorem bs_156 : st.bareCost f 156 = sgasA 156 + dynA st f 156 := by
  simp [ASt.bareCost, sgasA, dynA, ASt.enterCost, ASt.destroyCost, famA, expCostA]
theorem bs_157 : st.bareCost f 157 = sgasA 157 + dynA st f 157 := by
  simp [ASt.bareCost, sgasA, dynA, ASt.enterCost, ASt.destroyCost, famA, expCostA]
theorem bs_158 : st.bareCost f 158 = sgasA 158 + dynA st f 158 := by
  simp [ASt.bareCost, sgasA, dynA, ASt.enterCost, ASt.destroyCost, famA, expCostA]
theorem bs_159 : st.bareCost f 159 = sgasA 159 + dynA st f 159 := by
  simp [ASt.bareCost, sgasA, dynA, ASt.enterCost, ASt.destroyCost, famA, expCostA]
theorem bs_160 : st.bareCost f 160 = sgasA 160 + dynA st f 160 := by
  simp [ASt.bareCost, sgasA, dynA, ASt.enterCost, ASt.destroyCost, famA, expCostA]
theorem bs_161 : st.bareCost f 161 = sgasA 161 + dynA st f 161 := by
  simp [ASt.bareCost, sgasA, dynA, ASt.enterCost, ASt.destroyCost, famA, expCostA]
theorem bs_162 : st.bareCost f 162 = sgasA 162 + dynA st f 162 := by
  simp [ASt.bareCost, sgasA, dynA, ASt.enterCost, ASt.destroyCost, famA, expCostA]
theorem bs_163 : st.bareCost f 163 = sgasA 163 + dynA st f 163 := by
  simp [ASt.bareCost, sgasA, dynA, ASt.enterCost, ASt.destroyCost, famA, expCostA]
theorem bs_164 : st.bareCost f 164 = sgasA 164 + dynA st f 164 := by
  simp [ASt.bareCost, sgasA, dynA, ASt.enterCost, ASt.destroyCost, famA, expCostA]
theorem bs_240 : st.bareCost f 240 = sgasA 240 + dynA st f 240 := by
  simp [ASt.bareCost, sgasA, dynA, ASt.enterCost, ASt.destroyCost, famA, expCostA]
theorem bs_241 : st.bareCost f 241 = sgasA 241 + dynA st f 241 := by
  simp [ASt.bareCost, sgasA, dynA, ASt.enterCost, ASt.destroyCost, famA, expCostA]
theorem bs_242 : st.bareCost f 242 = sgasA 242 + dynA st f 242 := by
  simp [ASt.bareCost, sgasA, dynA, ASt.enterCost, ASt.destroyCost, famA, expCostA]
theorem bs_243 : st.bareCost f 243 = sgasA 243 + dynA st f 243 := by
  simp [ASt.bareCost, sgasA, dynA, ASt.enterCost, ASt.destroyCost, famA, expCostA]
theorem bs_244 : st.bareCost f 244 = sgasA 244 + dynA st f 244 := by
  simp [ASt.bareCost, sgasA, dynA, ASt.enterCost, ASt.destroyCost, famA, expCostA]
theorem bs_245 : st.bareCost f 245 = sgasA 245 + dynA st f 245 := by
  simp [ASt.bareCost, sgasA, dynA, ASt.enterCost, ASt.destroyCost, famA, expCostA]
theorem bs_250 : st.bareCost f 250 = sgasA 250 + dynA st f 250 := by
  simp [ASt.bareCost, sgasA, dynA, ASt.enterCost, ASt.destroyCost, famA, expCostA]
theorem bs_253 : st.bareCost f 253 = sgasA 253 + dynA st f 253 := by
  simp [ASt.bareCost, sgasA, dynA, ASt.enterCost, ASt.destroyCost, famA, expCostA]
theorem bs_255 : st.bareCost f 255 = sgasA 255 + dynA st f 255 := by
  simp [ASt.bareCost, sgasA, dynA, ASt.enterCost, ASt.destroyCost, famA, expCostA]
  omega
/-- The fixed and the moving part of the price. -/
theorem bare_sum (o : Nat) (hk : famA o ≠ 0) : st.bareCost f o = sgasA o + dynA st f o := by
  by_cases h0 : o = 0
  · subst h0; exact bs_0
  by_cases h1 : o = 1
  · subst h1; exact bs_1
  by_cases h2 : o = 2
  · subst h2; exact bs_2
  by_cases h3 : o = 3
  · subst h3; exact bs_3
  by_cases h4 : o = 4
  · subst h4; exact bs_4
  by_cases h5 : o = 5
  · subst h5; exact bs_5
  by_cases h6 : o = 6
  · subst h6; exact bs_6
  by_cases h7 : o = 7
  · subst h7; exact bs_7
  by_cases h8 : o = 8
  · subst h8; exact bs_8
  by_cases h9 : o = 9
  · subst h9; exact bs_9
  by_cases h10 : o = 10
  · subst h10; exact bs_10
  by_cases h11 : o = 11
  · subst h11; exact bs_11
  by_cases h16 : o = 16
  · subst h16; exact bs_16
  by_cases h17 : o = 17
  · subst h17; exact bs_17
  by_cases h18 : o = 18
  · subst h18; exact bs_18
  by_cases h19 : o = 19
  · subst h19; exact bs_19
  by_cases h20 : o = 20
  · subst h20; exact bs_20
  by_cases h21 : o = 21
  · subst h21; exact bs_21
  by_cases h22 : o = 22
  · subst h22; exact bs_22
  by_cases h23 : o = 23
  · subst h23; exact bs_23
  by_cases h24 : o = 24
  · subst h24; exact bs_24
  by_cases h25 : o = 25
  · subst h25; exact bs_25
  by_cases h26 : o = 26
  · subst h26; exact bs_26
  by_cases h27 : o = 27
  · subst h27; exact bs_27
  by_cases h28 : o = 28
  · subst h28; exact bs_28
  by_cases h29 : o = 29
  · subst h29; exact bs_29
  by_cases h32 : o = 32
  · subst h32; exact bs_32
  by_cases h48 : o = 48
  · subst h48; exact bs_48
  by_cases h49 : o = 49
  · subst h49; exact bs_49
  by_cases h50 : o = 50
  · subst h50; exact bs_50
  by_cases h51 : o = 51
  · subst h51; exact bs_51
  by_cases h52 : o = 52
  · subst h52; exact bs_52
  by_cases h53 : o = 53
  · subst h53; exact bs_53
  by_cases h54 : o = 54
  · subst h54; exact bs_54
  by_cases h55 : o = 55
  · subst h55; exact bs_55
  by_cases h56 : o = 56
  · subst h56; exact bs_56
  by_cases h57 : o = 57
  · subst h57; exact bs_57
  by_cases h58 : o = 58
  · subst h58; exact bs_58
  by_cases h59 : o = 59
  · subst h59; exact bs_59
  by_cases h60 : o = 60
  · subst h60; exact bs_60
  by_cases h61 : o = 61
  · subst h61; exact bs_61
  by_cases h62 : o = 62
  · subst h62; exact bs_62
  by_cases h63 : o = 63
  · subst h63; exact bs_63
  by_cases h64 : o = 64
  · subst h64; exact bs_64
  by_cases h65 : o = 65
  · subst h65; exact bs_65
  by_cases h66 : o = 66
  · subst h66; exact bs_66
  by_cases h67 : o = 67
  · subst h67; exact bs_67
  by_cases h68 : o = 68
  · subst h68; exact bs_68
  by_cases h69 : o = 69
  · subst h69; exact bs_69
  by_cases h70 : o = 70
  · subst h70; exact bs_70
  by_cases h71 : o = 71
  · subst h71; exact bs_71
  by_cases h72 : o = 72
  · subst h72; exact bs_72
  by_cases h80 : o = 80
  · subst h80; exact bs_80
  by_cases h81 : o = 81
  · subst h81; exact bs_81
  by_cases h82 : o = 82
  · subst h82; exact bs_82
  by_cases h83 : o = 83
  · subst h83; exact bs_83
  by_cases h84 : o = 84
  · subst h84; exact bs_84
  by_cases h85 : o = 85
  · subst h85; exact bs_85
  by_cases h86 : o = 86
  · subst h86; exact bs_86
  by_cases h87 : o = 87
  · subst h87; exact bs_87
  by_cases h88 : o = 88
  · subst h88; exact bs_88
  by_cases h89 : o = 89
  · subst h89; exact bs_89
  by_cases h90 : o = 90
  · subst h90; exact bs_90
  by_cases h91 : o = 91
  · subst h91; exact bs_91
  by_cases h92 : o = 92
  · subst h92; exact bs_92
  by_cases h93 : o = 93
  · subst h93; exact bs_93
  by_cases h94 : o = 94
  · subst h94; exact bs_94
  by_cases h95 : o = 95
  · subst h95; exact bs_95
  by_cases h96 : o = 96
  · subst h96; exact bs_96
  by_cases h97 : o = 97
  · subst h97; exact bs_97
  by_cases h98 : o = 98
  · subst h98; exact bs_98
  by_cases h99 : o = 99
  · subst h99; exact bs_99
  by_cases h100 : o = 100
  · subst h100; exact bs_100
  by_cases h101 : o = 101
  · subst h101; exact bs_101
  by_cases h102 : o = 102
  · subst h102; exact bs_102
  by_cases h103 : o = 103
  · subst h103; exact bs_103
  by_cases h104 : o = 104
  · subst h104; exact bs_104
  by_cases h105 : o = 105
  · subst h105; exact bs_105
  by_cases h106 : o = 106
  · subst h106; exact bs_106
  by_cases h107 : o = 107
  · subst h107; exact bs_107
  by_cases h108 : o = 108
  · subst h108; exact bs_108
  by_cases h109 : o = 109
  · subst h109; exact bs_109
  by_cases h110 : o = 110
  · subst h110; exact bs_110
  by_cases h111 : o = 111
  · subst h111; exact bs_111
  by_cases h112 : o = 112
  · subst h112; exact bs_112
  by_cases h113 : o = 113
  · subst h113; exact bs_113
  by_cases h114 : o = 114
  · subst h114; exact bs_114
  by_cases h115 : o = 115
  · subst h115; exact bs_115
  by_cases h116 : o = 116
  · subst h116; exact bs_116
  by_cases h117 : o = 117
  · subst h117; exact bs_117
  by_cases h118 : o = 118
  · subst h118; exact bs_118
  by_cases h119 : o = 119
  · subst h119; exact bs_119
  by_cases h120 : o = 120
  · subst h120; exact bs_120
  by_cases h121 : o = 121
  · subst h121; exact bs_121
  by_cases h122 : o = 122
  · subst h122; exact bs_122
  by_cases h123 : o = 123
  · subst h123; exact bs_123
  by_cases h124 : o = 124
  · subst h124; exact bs_124
  by_cases h125 : o = 125
  · subst h125; exact bs_125
  by_cases h126 : o = 126
  · subst h126; exact bs_126
  by_cases h127 : o = 127
  · subst h127; exact bs_127
  by_cases h128 : o = 128
  · subst h128; exact bs_128
  by_cases h129 : o = 129
  · subst h129; exact bs_129
  by_cases h130 : o = 130
  · subst h130; exact bs_130
  by_cases h131 : o = 131
  · subst h131; exact bs_131
  by_cases h132 : o = 132
  · subst h132; exact bs_132
  by_cases h133 : o = 133
  · subst h133; exact bs_133
  by_cases h134 : o = 134
  · subst h134; exact bs_134
  by_cases h135 : o = 135
  · subst h135; exact bs_135
  by_cases h136 : o = 136
  · subst h136; exact bs_136
  by_cases h137 : o = 137
  · subst h137; exact bs_137
  by_cases h138 : o = 138
  · subst h138; exact bs_138
  by_cases h139 : o = 139
  · subst h139; exact bs_139
  by_cases h140 : o = 140
  · subst h140; exact bs_140
  by_cases h141 : o = 141
  · subst h141; exact bs_141
  by_cases h142 : o = 142
  · subst h142; exact bs_142
  by_cases h143 : o = 143
  · subst h143; exact bs_143
  by_cases h144 : o = 144
  · subst h144; exact bs_144
  by_cases h145 : o = 145
  · subst h145; exact bs_145
  by_cases h146 : o = 146
  · subst h146; exact bs_146
  by_cases h147 : o = 147
  · subst h147; exact bs_147
  by_cases h148 : o = 148
  · subst h148; exact bs_148
  by_cases h149 : o = 149
  · subst h149; exact bs_149
  by_cases h150 : o = 150
  · subst h150; exact bs_150
  by_cases h151 : o = 151
  · subst h151; exact bs_151
  by_cases h152 : o = 152
  · subst h152; exact bs_152
  by_cases h153 : o = 153
  · subst h153; exact bs_153
  by_cases h154 : o = 154
  · subst h154; exact bs_154
  by_cases h155 : o = 155
  · subst h155; exact bs_155
  by_cases h156 : o = 156
  · subst h156; exact bs_156
  by_cases h157 : o = 157
  · subst h157; exact bs_157
  by_cases h158 : o = 158
  · subst h158; exact bs_158
  by_cases h159 : o = 159
  · subst h159; exact bs_159
  by_cases h160 : o = 160
  · subst h160; exact bs_160
  by_cases h161 : o = 161
  · subst h161; exact bs_161
  by_cases h162 : o = 162
  · subst h162; exact bs_162
  by_cases h163 : o = 163
  · subst h163; exact bs_163
  by_cases h164 : o = 164
  · subst h164; exact bs_164
  by_cases h240 : o = 240
  · subst h240; exact bs_240
  by_cases h241 : o = 241
  · subst h241; exact bs_241
  by_cases h242 : o = 242
  · subst h242; exact bs_242
  by_cases h243 : o = 243
  · subst h243; exact bs_243
  by_cases h244 : o = 244
  · subst h244; exact bs_244
  by_cases h245 : o = 245
  · subst h245; exact bs_245
  by_cases h250 : o = 250
  · subst h250; exact bs_250
  by_cases h253 : o = 253
  · subst h253; exact bs_253
  by_cases h255 : o = 255
  · subst h255; exact bs_255
  exact absurd (by unfold famA; (repeat (first | rw [if_neg (by omega)]))) hk
theorem endA_le {a n k : Nat} (h : endA a n ≤ k) : n ≤ k := by unfold endA at h; split at h <;> omega
theorem endA_fit {a n k : Nat} (h : endA a n ≤ k) (hn : n ≠ 0) : a + n ≤ k := by unfold endA at h; rw [if_neg hn] at h; exact h
theorem lens_ok {o : Nat} (h : f.reach o ≤ 717280) : lensOK f o := by
  unfold AFrame.reach at h
  refine ⟨fun q => ?_, fun q => ?_, fun q => ?_⟩
  · rw [if_pos (by omega)] at h; exact endA_le h
  · by_cases h1 : o = 55 ∨ o = 57 ∨ o = 62
    · rw [if_neg (by omega), if_pos h1] at h; exact endA_le h
    · by_cases h2 : o = 94
      · rw [if_neg (by omega), if_neg h1, if_neg (by omega), if_neg (by omega), if_neg (by omega), if_pos h2] at h
        exact endA_le (Nat.le_trans (Nat.le_max_left _ _) h)
      · rw [if_neg (by omega), if_neg h1, if_neg (by omega), if_neg (by omega), if_neg (by omega), if_neg h2, if_pos (by omega)] at h
        exact endA_le h
  · rw [if_neg (by omega), if_neg (by omega), if_pos q] at h; exact endA_le h
theorem access_leO (A : AW) (a : Nat) : A.access a ≤ 2600 := by unfold AW.access; split <;> omega
theorem sst_le (a b c : Nat) (d : Bool) : sstoreCost a b c d ≤ 22100 := by
  unfold sstoreCost
  have h1 : (if c = b ∨ b ≠ a then 100 else if a = 0 then 20000 else 2900) ≤ 20000 := by
    by_cases q : c = b ∨ b ≠ a
    · rw [if_pos q]; omega
    · rw [if_neg q]; by_cases z : a = 0
      · rw [if_pos z]; omega
      · rw [if_neg z]; omega
  have h2 : (if d = true then 2100 else 0) ≤ 2100 := by cases d <;> simp
  omega
theorem destr_le (st : ASt) (f : AFrame) : st.destroyCost f ≤ 32600 := by
  unfold ASt.destroyCost
  have h1 : (if st.now.warmA (addrA (f.arg 0)) = true then 0 else 2600) ≤ 2600 := by by_cases q : st.now.warmA (addrA (f.arg 0)) = true <;> simp [q]
  have h2 : (if st.now.empty (addrA (f.arg 0)) = true ∧ st.now.bal f.self ≠ 0 then 25000 else 0) ≤ 25000 := by
    by_cases q : st.now.empty (addrA (f.arg 0)) = true ∧ st.now.bal f.self ≠ 0
    · rw [if_pos q]; omega
    · rw [if_neg q]; omega
  omega
theorem call_le (st : ASt) (f : AFrame) (o : Nat) : (if f.arg 2 ≠ 0 then 9000 + (if o = 241 ∧ st.now.empty (addrA (f.arg 1)) = true then 25000 else 0) else 0) ≤ 34000 := by
  by_cases q : f.arg 2 ≠ 0
  · rw [if_pos q]
    by_cases z : o = 241 ∧ st.now.empty (addrA (f.arg 1)) = true
    · rw [if_pos z]; omega
    · rw [if_neg z]; omega
  · rw [if_neg q]; omega
theorem dyn_le {o : Nat} (hl : lensOK f o) (hx : f.arg 1 < P256) : dynA st f o ≤ 100000000 := by
  have hd : dl (f.arg 1) ≤ 32 := dl32 hx
  have a0 := access_leO st.now (addrA (f.arg 0))
  have a1 := access_leO st.now (addrA (f.arg 1))
  unfold dynA
  by_cases q0 : o = 10
  · rw [if_pos q0]; unfold expCostA; omega
  rw [if_neg q0]
  by_cases q1 : o = 32
  · rw [if_pos q1]; have := hl.1 (by omega); unfold wordsA; omega
  rw [if_neg q1]
  by_cases q2 : o = 55 ∨ o = 57 ∨ o = 62 ∨ o = 94
  · rw [if_pos q2]; have := hl.2.1 (by omega); unfold copyCostA wordsA; omega
  rw [if_neg q2]
  by_cases q3 : o = 49 ∨ o = 59 ∨ o = 63
  · rw [if_pos q3]; omega
  rw [if_neg q3]
  by_cases q4 : o = 60
  · rw [if_pos q4]; have := hl.2.2 (by omega); unfold copyCostA wordsA; omega
  rw [if_neg q4]
  by_cases q5 : 160 ≤ o ∧ o ≤ 164
  · rw [if_pos q5]; have := hl.1 (by omega); omega
  rw [if_neg q5]
  by_cases q6 : o = 84
  · rw [if_pos q6]; by_cases z : st.now.warmS f.self (f.arg 0) = true
    · rw [if_pos z]; omega
    · rw [if_neg z]; omega
  rw [if_neg q6]
  by_cases q7 : o = 85
  · rw [if_pos q7]; exact Nat.le_trans (sst_le _ _ _ _) (by omega)
  rw [if_neg q7]
  by_cases q8 : o = 240
  · rw [if_pos q8]; have := hl.2.1 (by omega); unfold wordsA; omega
  rw [if_neg q8]
  by_cases q9 : o = 245
  · rw [if_pos q9]; have := hl.2.1 (by omega); unfold wordsA; omega
  rw [if_neg q9]
  by_cases q10 : o = 244 ∨ o = 250
  · rw [if_pos q10]; omega
  rw [if_neg q10]
  by_cases q11 : o = 255
  · rw [if_pos q11]; have := destr_le st f; omega
  rw [if_neg q11]
  by_cases q12 : o = 241 ∨ o = 242
  · rw [if_pos q12]; have := call_le st f o; omega
  rw [if_neg q12]
  omega
theorem sgas_le (o : Nat) (ho : o < 256) : sgasA o ≤ 40000 := by
  have h : ∀ o : Fin 256, sgasA o.1 ≤ 40000 := by decide +kernel
  exact h ⟨o, ho⟩
/-- A reach too far cannot be paid. -/
theorem far_cost {o : Nat} (h : ¬ f.reach o ≤ 717280) (hm : f.mem.length ≤ 717280) (hg : f.gas + memCostA (f.mem.length / 32) ≤ 1048576) : f.gas < st.cost f o := by
  unfold ASt.cost
  have h1 : 22416 ≤ wordsA (f.reach o) := by unfold wordsA; omega
  have h2 : f.mem.length / 32 ≤ 22415 := by omega
  rw [if_neg (by omega)]
  obtain ⟨x, hx⟩ : ∃ x, wordsA (f.reach o) = x := ⟨_, rfl⟩
  obtain ⟨y, hy⟩ : ∃ y, f.mem.length / 32 = y := ⟨_, rfl⟩
  rw [hx] at h1 ⊢
  rw [hy] at h2 ⊢
  have h3 : memCostA 22416 ≤ memCostA x := by
    unfold memCostA
    have := Nat.mul_le_mul h1 h1
    omega
  rw [hy] at hg
  have h5 : 1048577 ≤ memCostA 22416 := by decide
  omega
end
end Go.Proofs.YgvahwGreat
