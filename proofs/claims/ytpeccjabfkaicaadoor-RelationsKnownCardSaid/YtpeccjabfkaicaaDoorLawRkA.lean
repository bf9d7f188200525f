/- Chapter 31: the definition's table of compositions, entry by entry.
   Conditions: none. Printed by genRk.py. -/
import Derived.Test.YtpeccjabfkaicaaDoorLawBase
import Derived.Test.YtpeccjabfkaicaaDoorLawCond
import Derived.Test.YtpeccjabfkaicaaDoorShR
import Derived.KernelRfl
set_option linter.unusedVariables false
set_option linter.unusedSimpArgs false
set_option maxRecDepth 100000
namespace Go.Sh
open Go.Abs

def runsL : List (Int × Int × Int × Int) := [(0, 0, 0, 0), (0, 0, 0, 1), (0, 0, 0, 2), (0, 0, 0, 3), (0, 0, 0, 4), (0, 0, 0, 5), (0, 0, 0, 6), (0, 0, 0, 7), (0, 1, 0, 1),
  (0, 1, 0, 2), (0, 1, 0, 3), (0, 1, 0, 4), (0, 1, 0, 5), (0, 1, 0, 6), (0, 1, 0, 7), (0, 2, 0, 2), (0, 2, 0, 3), (0, 2, 0, 4),
  (0, 2, 0, 5), (0, 2, 0, 6), (0, 2, 0, 7), (0, 3, 0, 3), (0, 3, 0, 4), (0, 3, 0, 5), (0, 3, 0, 6), (0, 3, 0, 7), (0, 4, 0, 4),
  (0, 4, 0, 5), (0, 4, 0, 6), (0, 4, 0, 7), (0, 5, 0, 5), (0, 5, 0, 6), (0, 5, 0, 7), (0, 6, 0, 6), (0, 6, 0, 7), (0, 7, 0, 7)]
/-- The relation of each two of these runs. -/
def Rm : List (List Nat) := [[7, 4, 4, 4, 4, 4, 4, 4, 2, 2, 2, 2, 2, 2, 2, 1, 1, 1, 1, 1, 1, 1, 1, 1, 1, 1, 1, 1, 1, 1, 1, 1, 1, 1, 1, 1],
  [10, 7, 4, 4, 4, 4, 4, 4, 8, 3, 3, 3, 3, 3, 3, 2, 2, 2, 2, 2, 2, 1, 1, 1, 1, 1, 1, 1, 1, 1, 1, 1, 1, 1, 1, 1],
  [10, 10, 7, 4, 4, 4, 4, 4, 9, 8, 3, 3, 3, 3, 3, 8, 3, 3, 3, 3, 3, 2, 2, 2, 2, 2, 1, 1, 1, 1, 1, 1, 1, 1, 1, 1],
  [10, 10, 10, 7, 4, 4, 4, 4, 9, 9, 8, 3, 3, 3, 3, 9, 8, 3, 3, 3, 3, 8, 3, 3, 3, 3, 2, 2, 2, 2, 1, 1, 1, 1, 1, 1],
  [10, 10, 10, 10, 7, 4, 4, 4, 9, 9, 9, 8, 3, 3, 3, 9, 9, 8, 3, 3, 3, 9, 8, 3, 3, 3, 8, 3, 3, 3, 2, 2, 2, 1, 1, 1],
  [10, 10, 10, 10, 10, 7, 4, 4, 9, 9, 9, 9, 8, 3, 3, 9, 9, 9, 8, 3, 3, 9, 9, 8, 3, 3, 9, 8, 3, 3, 8, 3, 3, 2, 2, 1],
  [10, 10, 10, 10, 10, 10, 7, 4, 9, 9, 9, 9, 9, 8, 3, 9, 9, 9, 9, 8, 3, 9, 9, 9, 8, 3, 9, 9, 8, 3, 9, 8, 3, 8, 3, 2],
  [10, 10, 10, 10, 10, 10, 10, 7, 9, 9, 9, 9, 9, 9, 8, 9, 9, 9, 9, 9, 8, 9, 9, 9, 9, 8, 9, 9, 9, 8, 9, 9, 8, 9, 8, 8],
  [12, 6, 5, 5, 5, 5, 5, 5, 7, 4, 4, 4, 4, 4, 4, 2, 2, 2, 2, 2, 2, 1, 1, 1, 1, 1, 1, 1, 1, 1, 1, 1, 1, 1, 1, 1],
  [12, 11, 6, 5, 5, 5, 5, 5, 10, 7, 4, 4, 4, 4, 4, 8, 3, 3, 3, 3, 3, 2, 2, 2, 2, 2, 1, 1, 1, 1, 1, 1, 1, 1, 1, 1],
  [12, 11, 11, 6, 5, 5, 5, 5, 10, 10, 7, 4, 4, 4, 4, 9, 8, 3, 3, 3, 3, 8, 3, 3, 3, 3, 2, 2, 2, 2, 1, 1, 1, 1, 1, 1],
  [12, 11, 11, 11, 6, 5, 5, 5, 10, 10, 10, 7, 4, 4, 4, 9, 9, 8, 3, 3, 3, 9, 8, 3, 3, 3, 8, 3, 3, 3, 2, 2, 2, 1, 1, 1],
  [12, 11, 11, 11, 11, 6, 5, 5, 10, 10, 10, 10, 7, 4, 4, 9, 9, 9, 8, 3, 3, 9, 9, 8, 3, 3, 9, 8, 3, 3, 8, 3, 3, 2, 2, 1],
  [12, 11, 11, 11, 11, 11, 6, 5, 10, 10, 10, 10, 10, 7, 4, 9, 9, 9, 9, 8, 3, 9, 9, 9, 8, 3, 9, 9, 8, 3, 9, 8, 3, 8, 3, 2],
  [12, 11, 11, 11, 11, 11, 11, 6, 10, 10, 10, 10, 10, 10, 7, 9, 9, 9, 9, 9, 8, 9, 9, 9, 9, 8, 9, 9, 9, 8, 9, 9, 8, 9, 8, 8],
  [13, 12, 6, 5, 5, 5, 5, 5, 12, 6, 5, 5, 5, 5, 5, 7, 4, 4, 4, 4, 4, 2, 2, 2, 2, 2, 1, 1, 1, 1, 1, 1, 1, 1, 1, 1],
  [13, 12, 11, 6, 5, 5, 5, 5, 12, 11, 6, 5, 5, 5, 5, 10, 7, 4, 4, 4, 4, 8, 3, 3, 3, 3, 2, 2, 2, 2, 1, 1, 1, 1, 1, 1],
  [13, 12, 11, 11, 6, 5, 5, 5, 12, 11, 11, 6, 5, 5, 5, 10, 10, 7, 4, 4, 4, 9, 8, 3, 3, 3, 8, 3, 3, 3, 2, 2, 2, 1, 1, 1],
  [13, 12, 11, 11, 11, 6, 5, 5, 12, 11, 11, 11, 6, 5, 5, 10, 10, 10, 7, 4, 4, 9, 9, 8, 3, 3, 9, 8, 3, 3, 8, 3, 3, 2, 2, 1],
  [13, 12, 11, 11, 11, 11, 6, 5, 12, 11, 11, 11, 11, 6, 5, 10, 10, 10, 10, 7, 4, 9, 9, 9, 8, 3, 9, 9, 8, 3, 9, 8, 3, 8, 3, 2],
  [13, 12, 11, 11, 11, 11, 11, 6, 12, 11, 11, 11, 11, 11, 6, 10, 10, 10, 10, 10, 7, 9, 9, 9, 9, 8, 9, 9, 9, 8, 9, 9, 8, 9, 8, 8],
  [13, 13, 12, 6, 5, 5, 5, 5, 13, 12, 6, 5, 5, 5, 5, 12, 6, 5, 5, 5, 5, 7, 4, 4, 4, 4, 2, 2, 2, 2, 1, 1, 1, 1, 1, 1],
  [13, 13, 12, 11, 6, 5, 5, 5, 13, 12, 11, 6, 5, 5, 5, 12, 11, 6, 5, 5, 5, 10, 7, 4, 4, 4, 8, 3, 3, 3, 2, 2, 2, 1, 1, 1],
  [13, 13, 12, 11, 11, 6, 5, 5, 13, 12, 11, 11, 6, 5, 5, 12, 11, 11, 6, 5, 5, 10, 10, 7, 4, 4, 9, 8, 3, 3, 8, 3, 3, 2, 2, 1],
  [13, 13, 12, 11, 11, 11, 6, 5, 13, 12, 11, 11, 11, 6, 5, 12, 11, 11, 11, 6, 5, 10, 10, 10, 7, 4, 9, 9, 8, 3, 9, 8, 3, 8, 3, 2],
  [13, 13, 12, 11, 11, 11, 11, 6, 13, 12, 11, 11, 11, 11, 6, 12, 11, 11, 11, 11, 6, 10, 10, 10, 10, 7, 9, 9, 9, 8, 9, 9, 8, 9, 8, 8],
  [13, 13, 13, 12, 6, 5, 5, 5, 13, 13, 12, 6, 5, 5, 5, 13, 12, 6, 5, 5, 5, 12, 6, 5, 5, 5, 7, 4, 4, 4, 2, 2, 2, 1, 1, 1],
  [13, 13, 13, 12, 11, 6, 5, 5, 13, 13, 12, 11, 6, 5, 5, 13, 12, 11, 6, 5, 5, 12, 11, 6, 5, 5, 10, 7, 4, 4, 8, 3, 3, 2, 2, 1],
  [13, 13, 13, 12, 11, 11, 6, 5, 13, 13, 12, 11, 11, 6, 5, 13, 12, 11, 11, 6, 5, 12, 11, 11, 6, 5, 10, 10, 7, 4, 9, 8, 3, 8, 3, 2],
  [13, 13, 13, 12, 11, 11, 11, 6, 13, 13, 12, 11, 11, 11, 6, 13, 12, 11, 11, 11, 6, 12, 11, 11, 11, 6, 10, 10, 10, 7, 9, 9, 8, 9, 8, 8],
  [13, 13, 13, 13, 12, 6, 5, 5, 13, 13, 13, 12, 6, 5, 5, 13, 13, 12, 6, 5, 5, 13, 12, 6, 5, 5, 12, 6, 5, 5, 7, 4, 4, 2, 2, 1],
  [13, 13, 13, 13, 12, 11, 6, 5, 13, 13, 13, 12, 11, 6, 5, 13, 13, 12, 11, 6, 5, 13, 12, 11, 6, 5, 12, 11, 6, 5, 10, 7, 4, 8, 3, 2],
  [13, 13, 13, 13, 12, 11, 11, 6, 13, 13, 13, 12, 11, 11, 6, 13, 13, 12, 11, 11, 6, 13, 12, 11, 11, 6, 12, 11, 11, 6, 10, 10, 7, 9, 8, 8],
  [13, 13, 13, 13, 13, 12, 6, 5, 13, 13, 13, 13, 12, 6, 5, 13, 13, 13, 12, 6, 5, 13, 13, 12, 6, 5, 13, 12, 6, 5, 12, 6, 5, 7, 4, 2],
  [13, 13, 13, 13, 13, 12, 11, 6, 13, 13, 13, 13, 12, 11, 6, 13, 13, 13, 12, 11, 6, 13, 13, 12, 11, 6, 13, 12, 11, 6, 12, 11, 6, 10, 7, 8],
  [13, 13, 13, 13, 13, 13, 12, 6, 13, 13, 13, 13, 13, 12, 6, 13, 13, 13, 13, 12, 6, 13, 13, 13, 12, 6, 13, 13, 12, 6, 13, 12, 6, 12, 6, 7]]
def Rl (i j : Nat) : Nat := (Rm.getD i []).getD j 0
/-- The table. -/
def tbl : List Nat := [0, 0, 0, 0, 0, 0, 0, 0, 0, 0, 0, 0, 0, 0, 0, 2, 2, 2, 2, 62, 62, 2, 2, 2, 2, 62, 62, 16382,
  0, 2, 2, 2, 4, 56, 56, 4, 2, 2, 4, 56, 448, 15872, 0, 2, 2, 14, 8, 56, 56, 8, 14, 782, 776, 4088, 3584, 15872,
  0, 2, 2, 14, 16, 32, 32, 16, 14, 782, 1168, 2144, 4096, 8192, 0, 2, 2, 62, 32, 32, 32, 32, 62, 16382, 14432, 14432, 8192, 8192,
  0, 2, 4, 56, 32, 32, 64, 64, 448, 15872, 14336, 14336, 8192, 8192, 0, 2, 4, 8, 16, 32, 64, 128, 256, 512, 1024, 2048, 4096, 8192,
  0, 2, 4, 8, 8, 56, 448, 256, 256, 512, 512, 3584, 3584, 15872, 0, 782, 776, 776, 776, 4088, 3584, 512, 512, 512, 512, 3584, 3584, 15872,
  0, 782, 776, 776, 1168, 2144, 2048, 1024, 512, 512, 1024, 2048, 4096, 8192, 0, 782, 776, 4088, 2144, 2144, 2048, 2048, 3584, 15872, 14336, 14336, 8192, 8192,
  0, 782, 1168, 2144, 2144, 2144, 4096, 4096, 4096, 8192, 8192, 8192, 8192, 8192, 0, 16382, 14432, 14432, 14432, 14432, 8192, 8192, 8192, 8192, 8192, 8192, 8192, 8192]
/-- Runs that show each entry. -/
def wit : List (Nat × Nat × Nat) := [(0, 15, 26), (0, 15, 21), (0, 16, 22), (0, 15, 16), (0, 21, 17), (0, 15, 10), (1, 21, 11), (0, 15, 3), (8, 21, 4), (0, 21, 16), (0, 15, 9), (1, 21, 10), (0, 15, 2), (8, 21, 3),
  (0, 15, 15), (0, 16, 21), (0, 17, 21), (0, 16, 15), (0, 22, 16), (0, 16, 9), (1, 22, 10), (0, 16, 2), (8, 22, 3), (0, 21, 15), (0, 15, 8), (1, 21, 9), (0, 15, 1), (8, 21, 2),
  (0, 26, 15), (0, 21, 8), (1, 26, 9), (0, 21, 1), (8, 26, 2), (8, 21, 1), (0, 15, 0), (1, 21, 8), (2, 26, 8), (1, 21, 0), (9, 26, 1), (8, 21, 0), (15, 26, 0), (0, 8, 21),
  (0, 8, 15), (0, 9, 16), (0, 8, 9), (1, 15, 10), (0, 8, 2), (8, 15, 3), (1, 15, 9), (0, 8, 1), (8, 15, 2), (0, 8, 8), (0, 9, 15), (0, 10, 15), (0, 9, 8), (1, 16, 9),
  (0, 9, 1), (8, 16, 2), (8, 15, 1), (0, 8, 0), (1, 15, 8), (2, 21, 8), (1, 15, 0), (9, 21, 1), (8, 15, 0), (15, 21, 0), (1, 9, 26), (1, 9, 21), (1, 10, 22), (1, 9, 16),
  (2, 10, 17), (1, 9, 10), (2, 16, 11), (1, 9, 3), (9, 16, 4), (2, 16, 10), (1, 9, 2), (9, 16, 3), (1, 9, 9), (1, 10, 21), (1, 9, 15), (2, 10, 16), (1, 11, 21), (1, 10, 15),
  (2, 11, 16), (2, 10, 15), (3, 11, 15), (1, 10, 9), (1, 9, 8), (2, 10, 8), (2, 17, 10), (1, 10, 2), (9, 17, 3), (9, 16, 2), (1, 9, 1), (2, 16, 9), (3, 17, 9), (2, 10, 1),
  (10, 17, 2), (2, 16, 8), (1, 9, 0), (9, 16, 1), (3, 22, 8), (2, 16, 0), (10, 22, 1), (9, 16, 0), (16, 22, 0), (0, 1, 21), (0, 1, 15), (0, 2, 16), (0, 1, 9), (1, 2, 10),
  (0, 1, 2), (8, 9, 3), (8, 9, 2), (0, 1, 1), (0, 2, 15), (0, 1, 8), (1, 2, 9), (0, 3, 15), (0, 2, 8), (1, 3, 9), (1, 2, 8), (2, 3, 8), (0, 2, 1), (0, 1, 0),
  (1, 2, 0), (8, 10, 2), (8, 9, 1), (9, 10, 1), (8, 9, 0), (15, 16, 0), (8, 2, 26), (8, 2, 21), (8, 3, 22), (8, 2, 16), (9, 3, 17), (8, 2, 10), (15, 3, 11), (8, 2, 3),
  (15, 10, 4), (15, 10, 3), (8, 2, 2), (8, 3, 21), (8, 2, 15), (9, 3, 16), (8, 2, 9), (15, 3, 10), (8, 4, 21), (8, 3, 15), (9, 4, 16), (8, 3, 9), (15, 4, 10), (15, 3, 9),
  (8, 2, 8), (9, 3, 15), (10, 4, 15), (9, 3, 8), (16, 4, 9), (15, 3, 8), (21, 4, 8), (8, 3, 2), (8, 2, 1), (9, 3, 1), (8, 2, 0), (15, 3, 0), (15, 11, 3), (15, 10, 2),
  (16, 11, 2), (15, 10, 1), (21, 11, 1), (15, 10, 0), (21, 17, 0), (8, 1, 21), (8, 1, 15), (9, 2, 16), (8, 1, 9), (15, 2, 10), (8, 1, 2), (15, 9, 3), (15, 9, 2), (8, 1, 1),
  (15, 2, 9), (8, 1, 8), (9, 2, 15), (10, 3, 15), (9, 2, 8), (16, 3, 9), (15, 2, 8), (21, 3, 8), (9, 2, 1), (8, 1, 0), (15, 2, 0), (16, 10, 2), (15, 9, 1), (21, 10, 1),
  (15, 9, 0), (21, 16, 0), (0, 0, 15), (0, 0, 8), (1, 1, 9), (0, 0, 1), (8, 8, 2), (8, 8, 1), (0, 0, 0), (1, 1, 8), (2, 2, 8), (1, 1, 0), (9, 9, 1), (8, 8, 0),
  (15, 15, 0), (1, 8, 21), (1, 8, 15), (2, 9, 16), (1, 8, 9), (2, 15, 10), (1, 8, 2), (9, 15, 3), (9, 15, 2), (1, 8, 1), (2, 15, 9), (1, 8, 8), (2, 9, 15), (3, 10, 15),
  (2, 9, 8), (3, 16, 9), (2, 9, 1), (10, 16, 2), (2, 15, 8), (1, 8, 0), (9, 15, 1), (3, 21, 8), (2, 15, 0), (10, 21, 1), (9, 15, 0), (16, 21, 0), (2, 8, 26), (2, 8, 21),
  (3, 8, 22), (3, 8, 21), (4, 8, 21), (2, 8, 16), (2, 8, 15), (3, 8, 15), (3, 9, 17), (3, 9, 16), (4, 9, 16), (2, 8, 10), (2, 8, 9), (3, 8, 9), (3, 15, 11), (2, 8, 3),
  (10, 15, 4), (10, 15, 3), (2, 8, 2), (3, 15, 10), (4, 15, 10), (3, 8, 2), (11, 15, 3), (3, 15, 9), (2, 8, 1), (10, 15, 2), (2, 8, 8), (3, 9, 15), (4, 10, 15), (3, 9, 8),
  (4, 16, 9), (3, 9, 1), (11, 16, 2), (3, 15, 8), (2, 8, 0), (10, 15, 1), (4, 21, 8), (3, 15, 0), (11, 21, 1), (10, 15, 0), (17, 21, 0), (1, 0, 21), (1, 0, 15), (2, 0, 16),
  (2, 0, 15), (3, 0, 15), (1, 0, 9), (1, 0, 8), (2, 0, 8), (2, 1, 10), (2, 1, 9), (3, 1, 9), (1, 0, 2), (1, 0, 1), (2, 0, 1), (9, 8, 3), (9, 8, 2), (10, 8, 2),
  (9, 8, 1), (1, 0, 0), (2, 1, 8), (3, 2, 8), (2, 1, 0), (10, 9, 1), (9, 8, 0), (16, 15, 0), (9, 1, 26), (9, 1, 21), (10, 1, 22), (10, 1, 21), (11, 1, 21), (9, 1, 16),
  (9, 1, 15), (10, 1, 15), (10, 2, 17), (9, 1, 10), (16, 2, 11), (16, 2, 10), (9, 1, 9), (10, 2, 16), (11, 2, 16), (10, 1, 9), (17, 2, 10), (9, 1, 3), (9, 1, 2), (10, 1, 2),
  (16, 9, 4), (16, 9, 3), (17, 9, 3), (16, 9, 2), (9, 1, 1), (10, 2, 15), (9, 1, 8), (16, 2, 9), (11, 3, 15), (10, 2, 8), (17, 3, 9), (16, 2, 8), (22, 3, 8), (10, 2, 1),
  (9, 1, 0), (16, 2, 0), (17, 10, 2), (16, 9, 1), (22, 10, 1), (16, 9, 0), (22, 16, 0), (8, 0, 21), (8, 0, 15), (9, 0, 16), (9, 0, 15), (10, 0, 15), (8, 0, 9), (8, 0, 8),
  (9, 0, 8), (15, 1, 10), (15, 1, 9), (16, 1, 9), (8, 0, 2), (8, 0, 1), (9, 0, 1), (15, 8, 3), (15, 8, 2), (16, 8, 2), (15, 8, 1), (8, 0, 0), (15, 1, 8), (21, 2, 8),
  (15, 1, 0), (21, 9, 1), (15, 8, 0), (21, 15, 0), (15, 0, 26), (15, 0, 21), (16, 0, 22), (15, 0, 16), (21, 0, 17), (21, 0, 16), (15, 0, 15), (16, 0, 21), (17, 0, 21), (16, 0, 15),
  (22, 0, 16), (21, 0, 15), (26, 0, 15), (15, 0, 10), (15, 0, 9), (16, 0, 9), (15, 0, 8), (21, 0, 8), (21, 1, 11), (21, 1, 10), (22, 1, 10), (21, 1, 9), (26, 1, 9), (15, 0, 3),
  (15, 0, 2), (16, 0, 2), (15, 0, 1), (21, 0, 1), (21, 8, 4), (21, 8, 3), (22, 8, 3), (21, 8, 2), (26, 8, 2), (21, 8, 1), (15, 0, 0), (21, 1, 8), (26, 2, 8), (21, 1, 0),
  (26, 9, 1), (21, 8, 0), (26, 15, 0)]

def bitB (p t : Nat) : Bool := decide (tbl.getD p 0 / 2 ^ t % 2 = 1)
def val (b : Nat → Bool) : Nat := 1 * (b 0).toNat + 2 * (b 1).toNat + 4 * (b 2).toNat + 8 * (b 3).toNat + 16 * (b 4).toNat + 32 * (b 5).toNat + 64 * (b 6).toNat + 128 * (b 7).toNat + 256 * (b 8).toNat + 512 * (b 9).toNat + 1024 * (b 10).toNat + 2048 * (b 11).toNat + 4096 * (b 12).toNat + 8192 * (b 13).toNat
def st (h : Nat → Nat → Bool) : List Int := (List.range 196).map fun p => ((val (h p) : Nat) : Int)
def updB (h : Nat → Nat → Bool) (p t : Nat) : Nat → Nat → Bool := fun p' t' => h p' t' || (p' == p && t' == t)

theorem below14 {t : Nat} (h : t < 14) : t = 0 ∨ t = 1 ∨ t = 2 ∨ t = 3 ∨ t = 4 ∨ t = 5 ∨ t = 6 ∨ t = 7 ∨ t = 8 ∨ t = 9 ∨ t = 10 ∨ t = 11 ∨ t = 12 ∨ t = 13 := by omega

theorem val_bit (b : Nat → Bool) {t : Nat} (h : t < 14) : val b / 2 ^ t % 2 = (b t).toNat := by
  have le : ∀ i, (b i).toNat ≤ 1 := fun i => by cases b i <;> decide
  have l0 := le 0; have l1 := le 1; have l2 := le 2; have l3 := le 3; have l4 := le 4; have l5 := le 5; have l6 := le 6
  have l7 := le 7; have l8 := le 8; have l9 := le 9; have l10 := le 10; have l11 := le 11; have l12 := le 12; have l13 := le 13
  unfold val
  rcases below14 h with rfl | rfl | rfl | rfl | rfl | rfl | rfl | rfl | rfl | rfl | rfl | rfl | rfl | rfl <;> simp only [Nat.reducePow] <;> omega

theorem val_set (b : Nat → Bool) {t : Nat} (h : t < 14) (hb : b t = false) : val (fun t' => b t' || t' == t) = val b + 2 ^ t := by
  unfold val
  rcases below14 h with rfl | rfl | rfl | rfl | rfl | rfl | rfl | rfl | rfl | rfl | rfl | rfl | rfl | rfl <;> simp [hb] <;> omega

theorem val_lt (b : Nat → Bool) : val b < 16384 := by
  have le : ∀ i, (b i).toNat ≤ 1 := fun i => by cases b i <;> decide
  have l0 := le 0; have l1 := le 1; have l2 := le 2; have l3 := le 3; have l4 := le 4; have l5 := le 5; have l6 := le 6
  have l7 := le 7; have l8 := le 8; have l9 := le 9; have l10 := le 10; have l11 := le 11; have l12 := le 12; have l13 := le 13
  unfold val
  omega

theorem val_congr {b c : Nat → Bool} (h : ∀ t, t < 14 → b t = c t) : val b = val c := by
  unfold val
  rw [h 0 (by omega), h 1 (by omega), h 2 (by omega), h 3 (by omega), h 4 (by omega), h 5 (by omega), h 6 (by omega), h 7 (by omega), h 8 (by omega), h 9 (by omega), h 10 (by omega), h 11 (by omega), h 12 (by omega), h 13 (by omega)]

theorem shl {t : Nat} (h : t < 14) : IntKind.wrap .i64 ((1 : Int) * 2 ^ (min (Int.toNat (t : Int)) (IntKind.bits .i64))) = ((2 ^ t : Nat) : Int) := by
  rcases below14 h with rfl | rfl | rfl | rfl | rfl | rfl | rfl | rfl | rfl | rfl | rfl | rfl | rfl | rfl <;> rfl

noncomputable def chkOf (i j : Nat) : Bool := match runsL[i]?, runsL[j]? with
  | some a, some b => circaref31_Of 300 a.1 a.2.1 a.2.2.1 a.2.2.2 b.1 b.2.1 b.2.2.1 b.2.2.2 == some ((Rl i j : Nat) : Int)
  | _, _ => false
theorem chkOf_ok : ((List.range 36).all fun i => (List.range 36).all fun j => chkOf i j) = true := by kernel_rfl

theorem Rl_lt : ((List.range 36).all fun i => (List.range 36).all fun j => Nat.blt (Rl i j) 14) = true := by decide +kernel
theorem sound : ((List.range 36).all fun i => (List.range 36).all fun j => (List.range 36).all fun k => bitB (14 * Rl i j + Rl j k) (Rl i k)) = true := by decide +kernel
theorem full : (wit.map fun w => (14 * Rl w.1 w.2.1 + Rl w.2.1 w.2.2, Rl w.1 w.2.2)) = (List.range 196).flatMap fun p => ((List.range 14).filter (bitB p)).map fun t => (p, t) := by decide +kernel
theorem wit_lt : (wit.all fun w => Nat.blt w.1 36 && (Nat.blt w.2.1 36 && Nat.blt w.2.2 36)) = true := by decide +kernel
theorem tbl_val : ((List.range 196).all fun p => val (bitB p) == tbl.getD p 0) = true := by decide +kernel

theorem of_eq {i j : Nat} (hi : i < 36) (hj : j < 36) {a b : Int × Int × Int × Int} (ha : runsL[i]? = some a) (hb : runsL[j]? = some b) : circaref31_Of 300 a.1 a.2.1 a.2.2.1 a.2.2.2 b.1 b.2.1 b.2.2.1 b.2.2.2 = some ((Rl i j : Nat) : Int) := by
  have h := (List.all_eq_true.1 ((List.all_eq_true.1 chkOf_ok) i (List.mem_range.2 hi))) j (List.mem_range.2 hj)
  unfold chkOf at h
  rw [ha, hb] at h
  exact beq_iff_eq.1 h

theorem rl_lt {i j : Nat} (hi : i < 36) (hj : j < 36) : Rl i j < 14 := by
  have h := (List.all_eq_true.1 ((List.all_eq_true.1 Rl_lt) i (List.mem_range.2 hi))) j (List.mem_range.2 hj)
  exact Nat.le_of_ble_eq_true h

theorem st_get (h : Nat → Nat → Bool) {p : Nat} (hp : p < 196) : (st h)[p]? = some ((val (h p) : Nat) : Int) := by
  unfold st
  rw [List.getElem?_map, List.getElem?_range hp]
  rfl

theorem st_len (h : Nat → Nat → Bool) : (st h).length = 196 := by simp [st]

theorem upd_same {h : Nat → Nat → Bool} {p t : Nat} (hb : h p t = true) : updB h p t = h := by
  funext p' t'
  unfold updB
  by_cases e : p' = p ∧ t' = t
  · obtain ⟨rfl, rfl⟩ := e
    rw [hb]; rfl
  · have : (p' == p && t' == t) = false := by
      rw [Bool.and_eq_false_iff]
      by_cases e1 : p' = p
      · right; exact beq_eq_false_iff_ne.2 (fun e2 => e ⟨e1, e2⟩)
      · left; exact beq_eq_false_iff_ne.2 e1
    rw [this, Bool.or_false]

theorem st_set {h : Nat → Nat → Bool} {p t : Nat} (hp : p < 196) (ht : t < 14) (hb : h p t = false) : (st h).set p ((val (h p) + 2 ^ t : Nat) : Int) = st (updB h p t) := by
  apply List.ext_getElem?
  intro q
  by_cases hq : q < 196
  · rw [st_get _ hq, List.getElem?_set]
    by_cases e : p = q
    · subst e
      rw [if_pos rfl, if_pos (by rw [st_len]; exact hp)]
      congr 2
      rw [← val_set (h p) ht hb]
      apply val_congr
      intro t' _
      unfold updB
      rw [show (p == p) = true from beq_self_eq_true p, Bool.true_and]
    · rw [if_neg e, st_get _ hq]
      congr 2
      apply val_congr
      intro t' _
      unfold updB
      rw [beq_eq_false_iff_ne.2 (fun e' => e e'.symm), Bool.false_and, Bool.or_false]
  · rw [List.getElem?_eq_none (by rw [List.length_set, st_len]; omega), List.getElem?_eq_none (by rw [st_len]; omega)]

theorem runs_len : runsL.length = 36 := rfl
theorem run_at {i : Nat} (h : i < 36) : ∃ a, runsL[i]? = some a := ⟨_, List.getElem?_eq_getElem (by rw [runs_len]; exact h)⟩

theorem l4_step {i j k : Nat} (hi : i < 36) (hj : j < 36) (hk : k < 36) (h : Nat → Nat → Bool) :
    circaref31_Table_l4 300 ((i : Int), (j : Int), ((Rl i j : Nat) : Int), (k : Int), st h, runsL) = some (.inl ((i : Int), (j : Int), ((Rl i j : Nat) : Int), ((k + 1 : Nat) : Int), st (updB h (14 * Rl i j + Rl j k) (Rl i k)), runsL)) := by
  obtain ⟨a, ha⟩ := run_at hi
  obtain ⟨b, hb⟩ := run_at hj
  obtain ⟨c, hc⟩ := run_at hk
  have r1 := rl_lt hi hj
  have r2 := rl_lt hj hk
  have r3 := rl_lt hi hk
  have w1 : IntKind.wrap .i64 ((k : Int) + 1) = ((k + 1 : Nat) : Int) := by rw [wrap_i64 _ (by omega) (by omega)]; omega
  have wp : IntKind.wrap .i64 (IntKind.wrap .i64 (14 * ((Rl i j : Nat) : Int)) + ((Rl j k : Nat) : Int)) = ((14 * Rl i j + Rl j k : Nat) : Int) := by
    rw [wrap_i64 (14 * ((Rl i j : Nat) : Int)) (by omega) (by omega), wrap_i64 _ (by omega) (by omega)]; omega
  have x1 : ix runsL.length (i : Int) = some i := ix_nat (by rw [runs_len]; exact hi)
  have x2 : ix runsL.length (j : Int) = some j := ix_nat (by rw [runs_len]; exact hj)
  have x3 : ix runsL.length (k : Int) = some k := ix_nat (by rw [runs_len]; exact hk)
  have hp : 14 * Rl i j + Rl j k < 196 := by omega
  have xp : ix (st h).length ((14 * Rl i j + Rl j k : Nat) : Int) = some (14 * Rl i j + Rl j k) := ix_nat (by rw [st_len]; exact hp)
  have hv := val_lt (h (14 * Rl i j + Rl j k))
  have hbit := val_bit (h (14 * Rl i j + Rl j k)) r3
  have h2 : 0 < 2 ^ Rl i k := Nat.pow_pos (by omega)
  have h2' : 2 ^ Rl i k ≤ 2 ^ 13 := Nat.pow_le_pow_right (by omega) (by omega)
  have e13 : (2 : Nat) ^ 13 = 8192 := by decide
  have hdl := Nat.div_le_self (val (h (14 * Rl i j + Rl j k))) (2 ^ Rl i k)
  have wd : IntKind.wrap .i64 (Int.tdiv ((val (h (14 * Rl i j + Rl j k)) : Nat) : Int) ((2 ^ Rl i k : Nat) : Int)) = ((val (h (14 * Rl i j + Rl j k)) / 2 ^ Rl i k : Nat) : Int) := by
    rw [show Int.tdiv ((val (h (14 * Rl i j + Rl j k)) : Nat) : Int) ((2 ^ Rl i k : Nat) : Int) = ((val (h (14 * Rl i j + Rl j k)) / 2 ^ Rl i k : Nat) : Int) from rfl]
    clear hbit
    generalize val (h (14 * Rl i j + Rl j k)) / 2 ^ Rl i k = z at hdl ⊢
    exact wrap_i64 _ (by omega) (by omega)
  have tm : Int.tmod ((val (h (14 * Rl i j + Rl j k)) / 2 ^ Rl i k : Nat) : Int) 2 = (((h (14 * Rl i j + Rl j k) (Rl i k)).toNat : Nat) : Int) := by
    rw [← hbit]; rfl
  have ws : IntKind.wrap .i64 (((val (h (14 * Rl i j + Rl j k)) : Nat) : Int) + ((2 ^ Rl i k : Nat) : Int)) = ((val (h (14 * Rl i j + Rl j k)) + 2 ^ Rl i k : Nat) : Int) := by
    rw [wrap_i64 _ (by omega) (by omega)]; omega
  have nz : (((2 ^ Rl i k : Nat) : Int) == 0) = false := beq_eq_false_iff_ne.2 (by omega)
  unfold circaref31_Table_l4
  rw [runs_len] at x1 x2 x3
  rw [runs_len]
  rw [decide_eq_true (show (k : Int) < ((36 : Nat) : Int) by omega)]
  simp only [cond_true, x1, x2, x3, ha, hb, hc, ob, of_eq hj hk hb hc, of_eq hi hk ha hc, wp, xp, st_get h hp, shl r3, nz, cond_false, wd, tm]
  rw [decide_eq_false (show ¬ ((Rl i k : Nat) : Int) < 0 by omega)]
  simp only [cond_false, w1]
  cases hb' : h (14 * Rl i j + Rl j k) (Rl i k) with
  | true =>
    rw [upd_same hb']
    rfl
  | false =>
    rw [ws, st_set hp r3 hb']
    rfl

theorem fold_loop {X Y S : Type} {step : X → Option (X ⊕ Y)} {f : Nat → S → X} {y : S → Y} {u : Nat → S → S} {n : Nat} (h : ∀ i s, i < n → step (f i s) = some (.inl (f (i + 1) (u i s)))) (he : ∀ s, step (f n s) = some (.inr (y s))) {N : Nat} (hN : n < N) (s0 : S) :
    iterL step N (f 0 s0) = some (y ((List.range n).foldl (fun s i => u i s) s0)) := by
  have go : ∀ (r i : Nat) (s : S), i + r = n → ∀ N, r < N → iterL step N (f i s) = some (y ((List.range' i r).foldl (fun s i => u i s) s)) := by
    intro r
    induction r with
    | zero =>
      intro i s hi N hN
      obtain ⟨N, rfl⟩ : ∃ q, N = q + 1 := ⟨N - 1, by omega⟩
      obtain rfl : i = n := by omega
      rw [iterL, he]
      rfl
    | succ r ih =>
      intro i s hi N hN
      obtain ⟨N, rfl⟩ : ∃ q, N = q + 1 := ⟨N - 1, by omega⟩
      rw [iterL, h i s (by omega), List.range'_succ, List.foldl_cons]
      exact ih (i + 1) _ (by omega) N (by omega)
  rw [List.range_eq_range']
  exact go n 0 s0 (by omega) N hN

abbrev HB := Nat → Nat → Bool
def H4 (i j : Nat) (h : HB) : HB := (List.range 36).foldl (fun h k => updB h (14 * Rl i j + Rl j k) (Rl i k)) h
def H3 (i : Nat) (h : HB) : HB := (List.range 36).foldl (fun h j => H4 i j h) h
def H2 (h : HB) : HB := (List.range 36).foldl (fun h i => H3 i h) h

theorem l4_loop {i j : Nat} (hi : i < 36) (hj : j < 36) (h : HB) : iterL (circaref31_Table_l4 300) 300 ((i : Int), (j : Int), ((Rl i j : Nat) : Int), 0, st h, runsL) = some ((i : Int), (j : Int), st (H4 i j h), runsL) := by
  have := fold_loop (step := circaref31_Table_l4 300) (f := fun k (h : HB) => ((i : Int), (j : Int), ((Rl i j : Nat) : Int), (k : Int), st h, runsL)) (y := fun h => ((i : Int), (j : Int), st h, runsL)) (u := fun k h => updB h (14 * Rl i j + Rl j k) (Rl i k)) (n := 36)
    (fun k h hk => l4_step hi hj hk h)
    (fun h => by
      unfold circaref31_Table_l4
      simp only []
      rw [runs_len]
      rw [decide_eq_false (show ¬ ((36 : Nat) : Int) < ((36 : Nat) : Int) by omega)]; rfl)
    (N := 300) (by omega) h
  exact this

theorem l3_loop {i : Nat} (hi : i < 36) (h : HB) : iterL (circaref31_Table_l3 300) 300 ((i : Int), 0, st h, runsL) = some ((i : Int), st (H3 i h), runsL) := by
  obtain ⟨a, ha⟩ := run_at hi
  have x1 : ix 36 (i : Int) = some i := ix_nat hi
  have := fold_loop (step := circaref31_Table_l3 300) (f := fun j (h : HB) => ((i : Int), (j : Int), st h, runsL)) (y := fun h => ((i : Int), st h, runsL)) (u := fun j h => H4 i j h) (n := 36)
    (fun j h hj => by
      obtain ⟨b, hb⟩ := run_at hj
      have x2 : ix 36 (j : Int) = some j := ix_nat hj
      have w1 : IntKind.wrap .i64 ((j : Int) + 1) = ((j + 1 : Nat) : Int) := by rw [wrap_i64 _ (by omega) (by omega)]; omega
      unfold circaref31_Table_l3
      simp only []
      rw [runs_len]
      rw [decide_eq_true (show (j : Int) < ((36 : Nat) : Int) by omega)]
      simp only [cond_true, x1, x2, ob, ha, hb, of_eq hi hj ha hb, l4_loop hi hj h, w1])
    (fun h => by
      unfold circaref31_Table_l3
      simp only []
      rw [runs_len]
      rw [decide_eq_false (show ¬ ((36 : Nat) : Int) < ((36 : Nat) : Int) by omega)]; rfl)
    (N := 300) (by omega) h
  exact this

theorem l2_loop (h : HB) : iterL (circaref31_Table_l2 300) 300 (0, st h, runsL) = some (st (H2 h)) := by
  have := fold_loop (step := circaref31_Table_l2 300) (f := fun i (h : HB) => ((i : Int), st h, runsL)) (y := fun h => st h) (u := fun i h => H3 i h) (n := 36)
    (fun i h hi => by
      have w1 : IntKind.wrap .i64 ((i : Int) + 1) = ((i + 1 : Nat) : Int) := by rw [wrap_i64 _ (by omega) (by omega)]; omega
      unfold circaref31_Table_l2
      simp only []
      rw [runs_len]
      rw [decide_eq_true (show (i : Int) < ((36 : Nat) : Int) by omega)]
      simp only [cond_true, ob, l3_loop hi h, w1])
    (fun h => by
      unfold circaref31_Table_l2
      simp only []
      rw [runs_len]
      rw [decide_eq_false (show ¬ ((36 : Nat) : Int) < ((36 : Nat) : Int) by omega)]; rfl)
    (N := 300) (by omega) h
  exact this

theorem fold_or {A : Type} (F : A → HB → HB) (Q : A → Nat → Nat → Bool) (hF : ∀ a h p t, F a h p t = (h p t || Q a p t)) : ∀ (L : List A) (h : HB) (p t : Nat), (L.foldl (fun h a => F a h) h) p t = (h p t || L.any fun a => Q a p t)
  | [], h, p, t => by simp
  | a :: L, h, p, t => by
    rw [List.foldl_cons, fold_or F Q hF L, hF, List.any_cons, Bool.or_assoc]

def Q4 (i j p t : Nat) : Bool := (List.range 36).any fun k => p == 14 * Rl i j + Rl j k && t == Rl i k
def Q3 (i p t : Nat) : Bool := (List.range 36).any fun j => Q4 i j p t

theorem H4_eq (i j : Nat) (h : HB) (p t : Nat) : H4 i j h p t = (h p t || Q4 i j p t) :=
  fold_or (fun k h => updB h (14 * Rl i j + Rl j k) (Rl i k)) (fun k p t => p == 14 * Rl i j + Rl j k && t == Rl i k) (fun _ _ _ _ => rfl) _ h p t
theorem H3_eq (i : Nat) (h : HB) (p t : Nat) : H3 i h p t = (h p t || Q3 i p t) :=
  fold_or (fun j h => H4 i j h) (fun j p t => Q4 i j p t) (fun j h p t => H4_eq i j h p t) _ h p t
theorem H2_eq (h : HB) (p t : Nat) : H2 h p t = (h p t || (List.range 36).any fun i => Q3 i p t) :=
  fold_or (fun i h => H3 i h) (fun i p t => Q3 i p t) (fun i h p t => H3_eq i h p t) _ h p t

theorem any_iff (p t : Nat) : ((List.range 36).any fun i => Q3 i p t) = true ↔ ∃ i j k, i < 36 ∧ j < 36 ∧ k < 36 ∧ p = 14 * Rl i j + Rl j k ∧ t = Rl i k := by
  unfold Q3 Q4
  simp only [List.any_eq_true, List.mem_range, Bool.and_eq_true, beq_iff_eq]
  constructor
  · rintro ⟨i, hi, j, hj, k, hk, h1, h2⟩; exact ⟨i, j, k, hi, hj, hk, h1, h2⟩
  · rintro ⟨i, j, k, hi, hj, hk, h1, h2⟩; exact ⟨i, hi, j, hj, k, hk, h1, h2⟩

theorem bits_eq {p t : Nat} (hp : p < 196) (ht : t < 14) : ((List.range 36).any fun i => Q3 i p t) = bitB p t := by
  rw [Bool.eq_iff_iff, any_iff]
  constructor
  · rintro ⟨i, j, k, hi, hj, hk, rfl, rfl⟩
    exact (List.all_eq_true.1 ((List.all_eq_true.1 ((List.all_eq_true.1 sound) i (List.mem_range.2 hi))) j (List.mem_range.2 hj))) k (List.mem_range.2 hk)
  · intro h
    have hm : (p, t) ∈ (List.range 196).flatMap fun p => ((List.range 14).filter (bitB p)).map fun t => (p, t) :=
      List.mem_flatMap.2 ⟨p, List.mem_range.2 hp, List.mem_map.2 ⟨t, List.mem_filter.2 ⟨List.mem_range.2 ht, h⟩, rfl⟩⟩
    rw [← full] at hm
    obtain ⟨w, hw, he⟩ := List.mem_map.1 hm
    have hl := (List.all_eq_true.1 wit_lt) w hw
    simp only [Bool.and_eq_true, Nat.blt_eq] at hl
    obtain ⟨e1, e2⟩ := Prod.mk.inj he
    exact ⟨w.1, w.2.1, w.2.2, hl.1, hl.2.1, hl.2.2, e1.symm, e2.symm⟩

end Go.Sh
