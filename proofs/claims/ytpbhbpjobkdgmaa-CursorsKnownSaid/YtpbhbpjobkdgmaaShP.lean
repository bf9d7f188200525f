/- What the functions of the program compute, as plain functions.
   Conditions: none. Printed by the bench tool gen.py. -/
import Derived.Test.YtpbhbpjobkdgmaaAbsQ
import Derived.Lib.Bytealg
set_option linter.unusedVariables false
set_option linter.unusedSimpArgs false
set_option maxRecDepth 100000
namespace Go.Sh
open Go.Abs

noncomputable def cursors_Cursor_Rest (n : Nat) (a0 : List UInt8) (a1 : Int) : Option (List UInt8) :=
  (ob (bx (List.length a0) a1) fun j2 => (some (List.drop j2 (List.take (List.length a0) a0))))

noncomputable def int_stringslite_HasPrefix (n : Nat) (a0 : List UInt8) (a1 : List UInt8) : Option (Bool) :=
  (cond (decide (((List.length a0 : Nat) : Int) ≥ ((List.length a1 : Nat) : Int))) (ob (bx (List.length a0) ((List.length a1 : Nat) : Int)) fun j4 => (some ((List.drop 0 (List.take j4 a0)) == a1))) (some false))

noncomputable def strings_HasPrefix (n : Nat) (a0 : List UInt8) (a1 : List UInt8) : Option (Bool) :=
  (ob (int_stringslite_HasPrefix n a0 a1) fun r5 => (some r5))

noncomputable def cursors_Cursor_Is (n : Nat) (a0 : List UInt8) (a1 : List UInt8) (a2 : Int) : Option (Bool) :=
  (ob (cursors_Cursor_Rest n a1 a2) fun y7 => (ob (strings_HasPrefix n y7 a0) fun r8 => (some r8)))

noncomputable def cursors_Cursor_Take (n : Nat) (a0 : List UInt8) (a1 : List UInt8) (a2 : Int) : Option ((Bool × List UInt8 × Int)) :=
  (ob (cursors_Cursor_Is n a0 a1 a2) fun y10 => (cond (!y10) (some (false, a1, a2)) (some (true, a1, (IntKind.wrap .i64 (a2 + ((List.length a0 : Nat) : Int)))))))

noncomputable def cursors_Cursor_At (n : Nat) (a0 : List UInt8) (a1 : Int) : Option (Int) :=
  (some a1)

noncomputable def cursors_Cursor_Peek (n : Nat) (a0 : List UInt8) (a1 : Int) : Option ((Int × Bool)) :=
  (ob (cursors_Cursor_Rest n a0 a1) fun y15 => (cond (y15 == ([] : List UInt8)) (some (0, false)) (ob (sx a0 a1) fun c16 => (some (((c16.toNat : Nat) : Int), true)))))


noncomputable def int_stringslite_IndexByte (n : Nat) (a0 : List UInt8) (a1 : Int) : Option (Int) :=
  (some (Lib.indexByte a0 (UInt8.ofNat (Int.toNat a1))))

noncomputable def strings_IndexByte (n : Nat) (a0 : List UInt8) (a1 : Int) : Option (Int) :=
  (ob (int_stringslite_IndexByte n a0 a1) fun r18 => (some r18))

noncomputable def cursors_Cursor_Fail (n : Nat) (a0 : Int) (a1 : Int) (a2 : List UInt8) (a3 : Int) : Option ((Int × Int)) :=
  (cond (a1 == 0) (some (a0, 5)) (some (a0, a1)))

noncomputable def cursors_Cursor_Some_l0 (n : Nat) (x : List UInt8 × Int × Int × Int × Int × Bool × List UInt8 × Int) : Option ((List UInt8 × Int × Int × Int × Int × Bool × List UInt8 × Int) ⊕ ((Int × Int × List UInt8 × Int))) :=
  (cond x.2.2.2.2.2.1 (cond (decide ((IntKind.wrap .i64 (x.2.2.2.2.2.2.2 - x.2.2.2.1)) < x.2.2.1)) (ob (strings_IndexByte n x.1 x.2.2.2.2.1) fun r29 => (cond (decide (r29 ≥ 0)) (ob (cursors_Cursor_Peek n x.2.2.2.2.2.2.1 (IntKind.wrap .i64 (x.2.2.2.2.2.2.2 + 1))) fun y30 => (some (.inl (x.1, x.2.1, x.2.2.1, x.2.2.2.1, y30.1, y30.2, x.2.2.2.2.2.2.1, (IntKind.wrap .i64 (x.2.2.2.2.2.2.2 + 1)))))) (some (.inr (x.2.1, x.2.2.2.1, x.2.2.2.2.2.2.1, x.2.2.2.2.2.2.2))))) (some (.inr (x.2.1, x.2.2.2.1, x.2.2.2.2.2.2.1, x.2.2.2.2.2.2.2)))) (some (.inr (x.2.1, x.2.2.2.1, x.2.2.2.2.2.2.1, x.2.2.2.2.2.2.2))))
noncomputable def cursors_Cursor_Some (n : Nat) (a0 : List UInt8) (a1 : Int) (a2 : Int) (a3 : List UInt8) (a4 : Int) : Option ((Int × Int × List UInt8 × Int) ⊕ (List UInt8 × List UInt8 × Int)) :=
  (ob (cursors_Cursor_At n a3 a4) fun y27 => (ob (cursors_Cursor_Peek n a3 a4) fun y28 => (ob (iterL (cursors_Cursor_Some_l0 n) n (a0, a1, a2, y27, y28.1, y28.2, a3, a4)) fun y31 => (ob (cursors_Cursor_At n y31.2.2.1 y31.2.2.2) fun y32 => (cond (decide ((IntKind.wrap .i64 (y32 - y31.2.1)) < y31.1)) (ob (cursors_Cursor_At n y31.2.2.1 y31.2.2.2) fun y33 => (ob (cursors_Cursor_Fail n y33 5 y31.2.2.1 y31.2.2.2) fun y34 => (some (.inl (y34.1, y34.2, y31.2.2.1, y31.2.2.2))))) (ob (bx (List.length y31.2.2.1) y31.2.2.2) fun j35 => (ob (bx j35 y31.2.1) fun j36 => (some (.inr ((List.drop j36 (List.take j35 y31.2.2.1)), y31.2.2.1, y31.2.2.2))))))))))

noncomputable def circalaw12_reads (n : Nat) (a0 : List UInt8) (a1 : Int) : Option ((Int × Int × List UInt8 × Int) ⊕ (List UInt8 × Int)) :=
  (ob (cursors_Cursor_Take n [97, 98] a0 a1) fun y40 => (ob (cursors_Cursor_Some n [48, 49, 50, 51, 52, 53, 54, 55, 56, 57] 1 9 y40.2.1 y40.2.2) fun y41 => (Sum.casesOn (motive := fun _ => Option _) y41 (fun a42 => (some (.inl (a42.1, a42.2.1, a42.2.2.1, a42.2.2.2)))) (fun b43 => (some (.inr (b43.2.1, b43.2.2)))))))

noncomputable def cursors_Run (n : Nat) (a0 : List UInt8) : Option ((Int × Int)) :=
  (ob (circalaw12_reads n a0 0) fun y44 => (Sum.casesOn (motive := fun _ => Option _) y44 (fun a45 => (some (a45.1, a45.2.1))) (fun b46 => (cond (decide (b46.2 < ((List.length a0 : Nat) : Int))) (some (b46.2, 5)) (some (0, 0))))))

noncomputable def circalaw12_short (n : Nat) (a0 : List UInt8) (a1 : Int) : Option ((Int × Int × List UInt8 × Int) ⊕ (List UInt8 × Int)) :=
  (ob (cursors_Cursor_Take n [97, 98] a0 a1) fun y52 => (ob (cursors_Cursor_Some n [48, 49, 50, 51, 52, 53, 54, 55, 56, 57] 3 9 y52.2.1 y52.2.2) fun y53 => (Sum.casesOn (motive := fun _ => Option _) y53 (fun a54 => (some (.inl (a54.1, a54.2.1, a54.2.2.1, a54.2.2.2)))) (fun b55 => (some (.inr (b55.2.1, b55.2.2)))))))

noncomputable def cursors_Run_v2 (n : Nat) (a0 : List UInt8) : Option ((Int × Int)) :=
  (ob (circalaw12_short n a0 0) fun y56 => (Sum.casesOn (motive := fun _ => Option _) y56 (fun a57 => (some (a57.1, a57.2.1))) (fun b58 => (cond (decide (b58.2 < ((List.length a0 : Nat) : Int))) (some (b58.2, 5)) (some (0, 0))))))

noncomputable def cursors_Cursor_Want_l0 (n : Nat) (x : List UInt8 × Int × List UInt8 × List UInt8 × Int) : Option ((List UInt8 × Int × List UInt8 × List UInt8 × Int) ⊕ ((Int × List UInt8 × Int))) :=
  (cond (decide (x.2.1 < (cond (decide (((List.length x.1 : Nat) : Int) < ((List.length x.2.2.1 : Nat) : Int))) ((List.length x.1 : Nat) : Int) ((List.length x.2.2.1 : Nat) : Int)))) (ob (sx x.2.2.1 x.2.1) fun c69 => (ob (sx x.1 x.2.1) fun c70 => (cond (((c69.toNat : Nat) : Int) == ((c70.toNat : Nat) : Int)) (some (.inl (x.1, (IntKind.wrap .i64 (x.2.1 + 1)), x.2.2.1, x.2.2.2.1, x.2.2.2.2))) (some (.inr (x.2.1, x.2.2.2.1, x.2.2.2.2)))))) (some (.inr (x.2.1, x.2.2.2.1, x.2.2.2.2))))
noncomputable def cursors_Cursor_Want (n : Nat) (a0 : List UInt8) (a1 : List UInt8) (a2 : Int) : Option ((List UInt8 × Int) ⊕ (Int × Int × List UInt8 × Int)) :=
  (ob (cursors_Cursor_Take n a0 a1 a2) fun y67 => (cond y67.1 (some (.inl (y67.2.1, y67.2.2))) (ob (cursors_Cursor_Rest n y67.2.1 y67.2.2) fun y68 => (ob (iterL (cursors_Cursor_Want_l0 n) n (a0, 0, y68, y67.2.1, y67.2.2)) fun y71 => (ob (cursors_Cursor_At n y71.2.1 y71.2.2) fun y72 => (ob (cursors_Cursor_Fail n (IntKind.wrap .i64 (y72 + y71.1)) 5 y71.2.1 y71.2.2) fun y73 => (some (.inr (y73.1, y73.2, y71.2.1, y71.2.2)))))))))

noncomputable def circalaw12_wants (n : Nat) (a0 : List UInt8) (a1 : Int) : Option ((List UInt8 × Int) ⊕ (Int × Int × List UInt8 × Int)) :=
  (ob (cursors_Cursor_Want n [97, 98, 99] a0 a1) fun y77 => (Sum.casesOn (motive := fun _ => Option _) y77 (fun a78 => (some (.inl (a78.1, a78.2)))) (fun b79 => (some (.inr (b79.1, b79.2.1, b79.2.2.1, b79.2.2.2))))))

noncomputable def cursors_Run_v3 (n : Nat) (a0 : List UInt8) : Option ((Int × Int)) :=
  (ob (circalaw12_wants n a0 0) fun y80 => (Sum.casesOn (motive := fun _ => Option _) y80 (fun a81 => (cond (decide (a81.2 < ((List.length a0 : Nat) : Int))) (some (a81.2, 5)) (some (0, 0)))) (fun b82 => (some (b82.1, b82.2.1)))))

noncomputable def cursors_Cursor_One (n : Nat) (a0 : List UInt8) (a1 : List UInt8) (a2 : Int) : Option ((Int × Int × List UInt8 × Int) ⊕ (Int × List UInt8 × Int)) :=
  (ob (cursors_Cursor_Peek n a1 a2) fun y90 => (cond (!y90.2) (ob (cursors_Cursor_At n a1 a2) fun y91 => (ob (cursors_Cursor_Fail n y91 5 a1 a2) fun y92 => (some (.inl (y92.1, y92.2, a1, a2))))) (ob (strings_IndexByte n a0 y90.1) fun r93 => (cond (decide (r93 < 0)) (ob (cursors_Cursor_At n a1 a2) fun y94 => (ob (cursors_Cursor_Fail n y94 5 a1 a2) fun y95 => (some (.inl (y95.1, y95.2, a1, a2))))) (some (.inr (y90.1, a1, (IntKind.wrap .i64 (a2 + 1)))))))))

noncomputable def circalaw12_letters (n : Nat) (a0 : List UInt8) (a1 : Int) : Option ((Int × Int × List UInt8 × Int) ⊕ (List UInt8 × Int)) :=
  (ob (cursors_Cursor_One n [97, 98] a0 a1) fun y105 => (Sum.casesOn (motive := fun _ => Option _) y105 (fun a106 => (some (.inl (a106.1, a106.2.1, a106.2.2.1, a106.2.2.2)))) (fun b107 => (ob (cursors_Cursor_One n [97, 98] b107.2.1 b107.2.2) fun y108 => (Sum.casesOn (motive := fun _ => Option _) y108 (fun a109 => (some (.inl (a109.1, a109.2.1, a109.2.2.1, a109.2.2.2)))) (fun b110 => (ob (cursors_Cursor_One n [97, 98] b110.2.1 b110.2.2) fun y111 => (Sum.casesOn (motive := fun _ => Option _) y111 (fun a112 => (some (.inl (a112.1, a112.2.1, a112.2.2.1, a112.2.2.2)))) (fun b113 => (some (.inr (b113.2.1, b113.2.2))))))))))))

noncomputable def cursors_Run_v4 (n : Nat) (a0 : List UInt8) : Option ((Int × Int)) :=
  (ob (circalaw12_letters n a0 0) fun y114 => (Sum.casesOn (motive := fun _ => Option _) y114 (fun a115 => (some (a115.1, a115.2.1))) (fun b116 => (cond (decide (b116.2 < ((List.length a0 : Nat) : Int))) (some (b116.2, 5)) (some (0, 0))))))

noncomputable def circalaw12_nothing (n : Nat) (a0 : List UInt8) (a1 : Int) : Option (Unit) :=
  (some ())

noncomputable def cursors_Run_v5 (n : Nat) (a0 : List UInt8) : Option ((Int × Int)) :=
  (ob (circalaw12_nothing n a0 0) fun y118 => (cond (decide ((0 : Int) < ((List.length a0 : Nat) : Int))) (some (0, 5)) (some (0, 0))))

noncomputable def circalaw12_fails (n : Nat) (a0 : List UInt8) (a1 : Int) : Option ((Int × Int)) :=
  (ob (cursors_Cursor_Fail n 7 6 a0 a1) fun y121 => (some (y121.1, y121.2)))

noncomputable def cursors_Run_v6 (n : Nat) (a0 : List UInt8) : Option ((Int × Int)) :=
  (ob (circalaw12_fails n a0 0) fun y122 => (some (y122.1, y122.2)))

noncomputable def circalaw12_lives (n : Nat) : Option (Bool) :=
  (ob (cursors_Run n [97, 98, 49, 50]) fun y47 => (ob (cursors_Run_v2 n [97, 98, 49, 50]) fun y59 => (ob (cursors_Run_v3 n [97, 98, 49, 50]) fun y83 => (ob (cursors_Run_v4 n [97, 98, 49, 50]) fun y117 => (ob (cursors_Run_v5 n [97, 98, 49, 50]) fun y119 => (ob (cursors_Run_v6 n [97, 98, 49, 50]) fun y123 => (cond (y47.1 == 0) (cond (y47.2 == 0) (cond (y59.1 == 4) (cond (y59.2 == 5) (cond (y83.1 == 2) (cond (y83.2 == 5) (cond (y117.1 == 2) (cond (y117.2 == 5) (cond (y119.1 == 0) (cond (y119.2 == 5) (cond (y123.1 == 7) (some (y123.2 == 6)) (some false)) (some false)) (some false)) (some false)) (some false)) (some false)) (some false)) (some false)) (some false)) (some false)) (some false))))))))

noncomputable def circaref12_Same_l0 (n : Nat) (x : List UInt8 × Int × List UInt8 × Int × Int × Int) : Option ((List UInt8 × Int × List UInt8 × Int × Int × Int) ⊕ (Int)) :=
  (cond (decide (x.2.1 < ((List.length x.1 : Nat) : Int))) (cond (decide ((IntKind.wrap .i64 (x.2.2.2.1 + x.2.1)) < ((List.length x.2.2.1 : Nat) : Int))) (ob (sx x.2.2.1 (IntKind.wrap .i64 (x.2.2.2.1 + x.2.1))) fun c133 => (ob (sx x.1 x.2.1) fun c134 => (cond (((c133.toNat : Nat) : Int) == ((c134.toNat : Nat) : Int)) (some (.inl (x.1, (IntKind.wrap .i64 (x.2.1 + 1)), x.2.2.1, x.2.2.2.1, x.2.2.2.2.1, x.2.2.2.2.2))) (some (.inr x.2.1))))) (some (.inr x.2.1))) (some (.inr x.2.1)))
noncomputable def circaref12_Same (n : Nat) (a0 : List UInt8) (a1 : Int) (a2 : Int) (a3 : Int) (a4 : List UInt8) : Option (Int) :=
  (ob (iterL (circaref12_Same_l0 n) n (a4, 0, a0, a1, a2, a3)) fun y135 => (some y135))

noncomputable def circaref12_Take (n : Nat) (a0 : List UInt8) (a1 : Int) (a2 : Int) (a3 : Int) (a4 : List UInt8) : Option (List UInt8 × Int × Int × Int × Int) :=
  (ob (circaref12_Same n a0 a1 a2 a3 a4) fun r136 => (cond (decide (r136 < ((List.length a4 : Nat) : Int))) (some (a0, a1, a2, a3, 0)) (some (a0, (IntKind.wrap .i64 (a1 + ((List.length a4 : Nat) : Int))), a2, a3, 1))))

noncomputable def circaref12_fail (n : Nat) (a0 : List UInt8) (a1 : Int) (a2 : Int) (a3 : Int) (a4 : Int) (a5 : Int) : Option (List UInt8 × Int × Int × Int) :=
  (cond (a5 == 0) (some (a0, a1, a4, 5)) (some (a0, a1, a4, a5)))

noncomputable def circaref12_Want (n : Nat) (a0 : List UInt8) (a1 : Int) (a2 : Int) (a3 : Int) (a4 : List UInt8) : Option (List UInt8 × Int × Int × Int) :=
  (ob (circaref12_Take n a0 a1 a2 a3 a4) fun r139 => (cond (r139.2.2.2.2 == 0) (ob (circaref12_Same n a0 a1 a2 a3 a4) fun r140 => (ob (circaref12_fail n a0 a1 a2 a3 (IntKind.wrap .i64 (a1 + r140)) 0) fun r141 => (some (r141.1, r141.2.1, r141.2.2.1, r141.2.2.2)))) (some (r139.1, r139.2.1, r139.2.2.1, r139.2.2.2.1))))

noncomputable def circaref12_of_l0 (n : Nat) (x : Int × List UInt8 × Int) : Option ((Int × List UInt8 × Int) ⊕ (Int ⊕ Unit)) :=
  (cond (decide (x.2.2 < ((List.length x.2.1 : Nat) : Int))) (ob (sx x.2.1 x.2.2) fun c148 => (cond (((c148.toNat : Nat) : Int) == x.1) (some (.inr (.inl 1))) (some (.inl (x.1, x.2.1, (IntKind.wrap .i64 (x.2.2 + 1))))))) (some (.inr (.inr ()))))
noncomputable def circaref12_of (n : Nat) (a0 : Int) (a1 : List UInt8) : Option (Int) :=
  (ob (iterL (circaref12_of_l0 n) n (a0, a1, 0)) fun y149 => (Sum.casesOn (motive := fun _ => Option _) y149 (fun a150 => (some a150)) (fun b151 => (some 0))))

noncomputable def circaref12_One (n : Nat) (a0 : List UInt8) (a1 : Int) (a2 : Int) (a3 : Int) (a4 : List UInt8) : Option (Int × List UInt8 × Int × Int × Int) :=
  (cond (decide (a1 ≥ ((List.length a0 : Nat) : Int))) (ob (circaref12_fail n a0 a1 a2 a3 a1 0) fun r146 => (some (0, r146.1, r146.2.1, r146.2.2.1, r146.2.2.2))) (ob (sx a0 a1) fun c147 => (ob (circaref12_of n ((c147.toNat : Nat) : Int) a4) fun r152 => (cond (r152 == 0) (ob (circaref12_fail n a0 a1 a2 a3 a1 0) fun r153 => (some (0, r153.1, r153.2.1, r153.2.2.1, r153.2.2.2))) (ob (sx a0 (IntKind.wrap .i64 ((IntKind.wrap .i64 (a1 + 1)) - 1))) fun c154 => (some (((c154.toNat : Nat) : Int), a0, (IntKind.wrap .i64 (a1 + 1)), a2, a3)))))))

noncomputable def circaref12_Some_l0 (n : Nat) (x : List UInt8 × Int × Int × Int × Int × List UInt8 × Int × Int × Int × List UInt8 × Int × Int × Int) : Option ((List UInt8 × Int × Int × Int × Int × List UInt8 × Int × Int × Int × List UInt8 × Int × Int × Int) ⊕ ((Int × Int × Int × List UInt8 × Int × Int × Int × List UInt8 × Int × Int × Int))) :=
  (cond (decide (x.2.2.2.2.1 < x.2.2.1)) (cond (decide (x.2.2.2.2.2.2.1 < ((List.length x.2.2.2.2.2.1 : Nat) : Int))) (ob (sx x.2.2.2.2.2.1 x.2.2.2.2.2.2.1) fun c159 => (ob (circaref12_of n ((c159.toNat : Nat) : Int) x.1) fun r160 => (cond (r160 == 1) (some (.inl (x.1, x.2.1, x.2.2.1, x.2.2.2.1, (IntKind.wrap .i64 (x.2.2.2.2.1 + 1)), x.2.2.2.2.2.1, (IntKind.wrap .i64 (x.2.2.2.2.2.2.1 + 1)), x.2.2.2.2.2.2.2.1, x.2.2.2.2.2.2.2.2.1, x.2.2.2.2.2.2.2.2.2.1, x.2.2.2.2.2.2.2.2.2.2.1, x.2.2.2.2.2.2.2.2.2.2.2.1, x.2.2.2.2.2.2.2.2.2.2.2.2))) (some (.inr (x.2.1, x.2.2.2.1, x.2.2.2.2.1, x.2.2.2.2.2.1, x.2.2.2.2.2.2.1, x.2.2.2.2.2.2.2.1, x.2.2.2.2.2.2.2.2.1, x.2.2.2.2.2.2.2.2.2.1, x.2.2.2.2.2.2.2.2.2.2.1, x.2.2.2.2.2.2.2.2.2.2.2.1, x.2.2.2.2.2.2.2.2.2.2.2.2)))))) (some (.inr (x.2.1, x.2.2.2.1, x.2.2.2.2.1, x.2.2.2.2.2.1, x.2.2.2.2.2.2.1, x.2.2.2.2.2.2.2.1, x.2.2.2.2.2.2.2.2.1, x.2.2.2.2.2.2.2.2.2.1, x.2.2.2.2.2.2.2.2.2.2.1, x.2.2.2.2.2.2.2.2.2.2.2.1, x.2.2.2.2.2.2.2.2.2.2.2.2)))) (some (.inr (x.2.1, x.2.2.2.1, x.2.2.2.2.1, x.2.2.2.2.2.1, x.2.2.2.2.2.2.1, x.2.2.2.2.2.2.2.1, x.2.2.2.2.2.2.2.2.1, x.2.2.2.2.2.2.2.2.2.1, x.2.2.2.2.2.2.2.2.2.2.1, x.2.2.2.2.2.2.2.2.2.2.2.1, x.2.2.2.2.2.2.2.2.2.2.2.2))))
noncomputable def circaref12_Some (n : Nat) (a0 : List UInt8) (a1 : Int) (a2 : Int) (a3 : Int) (a4 : List UInt8) (a5 : Int) (a6 : Int) : Option (List UInt8 × List UInt8 × Int × Int × Int) :=
  (ob (iterL (circaref12_Some_l0 n) n (a4, a5, a6, a1, 0, a0, a1, a2, a3, [], 0, 0, 0)) fun y161 => (cond (decide (y161.2.2.1 < y161.1)) (ob (circaref12_fail n y161.2.2.2.1 y161.2.2.2.2.1 y161.2.2.2.2.2.1 y161.2.2.2.2.2.2.1 y161.2.2.2.2.1 0) fun r162 => (some ([], r162.1, r162.2.1, r162.2.2.1, r162.2.2.2))) (ob (bx (List.length y161.2.2.2.1) y161.2.2.2.2.1) fun j163 => (ob (bx j163 y161.2.1) fun j164 => (some ((List.drop j164 (List.take j163 y161.2.2.2.1)), y161.2.2.2.1, y161.2.2.2.2.1, y161.2.2.2.2.2.1, y161.2.2.2.2.2.2.1))))))

noncomputable def circalaw12_player_check (n : Nat) (a0 : List UInt8) (a1 : Int) (a2 : List (Int × List UInt8 × Int × Int)) (a3 : List UInt8) (a4 : Int) (a5 : Int) (a6 : Int) (a7 : Int) : Option ((List UInt8 × Int × Int × Int × Int)) :=
  (ob (cursors_Cursor_Peek n a0 a1) fun y174 => (ob (cursors_Cursor_At n a0 a1) fun y175 => (cond (y175 != a4) (some (a3, a4, a5, a6, (IntKind.wrap .i64 (a7 + 1)))) (ob (cursors_Cursor_Rest n a0 a1) fun y176 => (ob (bx (List.length a3) a4) fun j177 => (cond (!(y176 == (List.drop j177 (List.take (List.length a3) a3)))) (some (a3, a4, a5, a6, (IntKind.wrap .i64 (a7 + 1)))) (cond (!(y174.2 == (decide (a4 < ((List.length a3 : Nat) : Int))))) (some (a3, a4, a5, a6, (IntKind.wrap .i64 (a7 + 1)))) (cond y174.2 (ob (sx a3 a4) fun c178 => (cond (y174.1 != ((c178.toNat : Nat) : Int)) (some (a3, a4, a5, a6, (IntKind.wrap .i64 (a7 + 1)))) (cond (!y174.2) (cond (y174.1 != 0) (some (a3, a4, a5, a6, (IntKind.wrap .i64 (a7 + 1)))) (some (a3, a4, a5, a6, a7))) (some (a3, a4, a5, a6, a7))))) (cond (!y174.2) (cond (y174.1 != 0) (some (a3, a4, a5, a6, (IntKind.wrap .i64 (a7 + 1)))) (some (a3, a4, a5, a6, a7))) (some (a3, a4, a5, a6, a7)))))))))))

noncomputable def circaref12_Fail (n : Nat) (a0 : List UInt8) (a1 : Int) (a2 : Int) (a3 : Int) (a4 : Int) (a5 : Int) : Option (List UInt8 × Int × Int × Int) :=
  (ob (circaref12_fail n a0 a1 a2 a3 a4 a5) fun r182 => (some (r182.1, r182.2.1, r182.2.2.1, r182.2.2.2)))

noncomputable def circalaw12_player_one (n : Nat) (a0 : Int) (a1 : List UInt8) (a2 : Int) (a3 : Int) (a4 : List (Int × List UInt8 × Int × Int)) (a5 : List UInt8) (a6 : Int) (a7 : Int) (a8 : Int) (a9 : Int) (a10 : List UInt8) (a11 : Int) : Option ((List UInt8 × Int × Int × Int × Int × List UInt8 × Int) ⊕ (Int × Int × List UInt8 × Int × Int × Int × Int × List UInt8 × Int)) :=
  (cond ((Int.tmod a0 8) == 0) (ob (circaref12_Take n a5 a6 a7 a8 a1) fun r194 => (ob (cursors_Cursor_Take n a1 a10 a11) fun y195 => (cond (!(y195.1 == (r194.2.2.2.2 == 1))) (cond (r194.2.2.2.1 != 0) (some (.inl (r194.1, r194.2.1, r194.2.2.1, r194.2.2.2.1, (IntKind.wrap .i64 ((IntKind.wrap .i64 (a9 + 1)) + 1)), y195.2.1, y195.2.2))) (some (.inl (r194.1, r194.2.1, r194.2.2.1, r194.2.2.2.1, (IntKind.wrap .i64 (a9 + 1)), y195.2.1, y195.2.2)))) (cond (r194.2.2.2.1 != 0) (some (.inl (r194.1, r194.2.1, r194.2.2.1, r194.2.2.2.1, (IntKind.wrap .i64 (a9 + 1)), y195.2.1, y195.2.2))) (some (.inl (r194.1, r194.2.1, r194.2.2.1, r194.2.2.2.1, a9, y195.2.1, y195.2.2))))))) (cond ((Int.tmod a0 8) == 1) (ob (circaref12_Want n a5 a6 a7 a8 a1) fun r196 => (ob (cursors_Cursor_Want n a1 a10 a11) fun y197 => (Sum.casesOn (motive := fun _ => Option _) y197 (fun a198 => (cond (r196.2.2.2 != 0) (some (.inl (r196.1, r196.2.1, r196.2.2.1, r196.2.2.2, (IntKind.wrap .i64 (a9 + 1)), a198.1, a198.2))) (some (.inl (r196.1, r196.2.1, r196.2.2.1, r196.2.2.2, a9, a198.1, a198.2))))) (fun b199 => (some (.inr (b199.1, b199.2.1, r196.1, r196.2.1, r196.2.2.1, r196.2.2.2, a9, b199.2.2.1, b199.2.2.2))))))) (cond ((Int.tmod a0 8) == 2) (ob (circaref12_One n a5 a6 a7 a8 a1) fun r200 => (ob (cursors_Cursor_One n a1 a10 a11) fun y201 => (Sum.casesOn (motive := fun _ => Option _) y201 (fun a202 => (some (.inr (a202.1, a202.2.1, r200.2.1, r200.2.2.1, r200.2.2.2.1, r200.2.2.2.2, a9, a202.2.2.1, a202.2.2.2)))) (fun b203 => (cond (b203.1 != r200.1) (cond (r200.2.2.2.2 != 0) (some (.inl (r200.2.1, r200.2.2.1, r200.2.2.2.1, r200.2.2.2.2, (IntKind.wrap .i64 ((IntKind.wrap .i64 (a9 + 1)) + 1)), b203.2.1, b203.2.2))) (some (.inl (r200.2.1, r200.2.2.1, r200.2.2.2.1, r200.2.2.2.2, (IntKind.wrap .i64 (a9 + 1)), b203.2.1, b203.2.2)))) (cond (r200.2.2.2.2 != 0) (some (.inl (r200.2.1, r200.2.2.1, r200.2.2.2.1, r200.2.2.2.2, (IntKind.wrap .i64 (a9 + 1)), b203.2.1, b203.2.2))) (some (.inl (r200.2.1, r200.2.2.1, r200.2.2.2.1, r200.2.2.2.2, a9, b203.2.1, b203.2.2))))))))) (cond ((Int.tmod a0 8) == 3) (cond ((Int.tmod a0 8) == 3) (ob (circaref12_Some n a5 a6 a7 a8 a1 a2 a3) fun r204 => (ob (cursors_Cursor_Some n a1 a2 a3 a10 a11) fun y205 => (Sum.casesOn (motive := fun _ => Option _) y205 (fun a206 => (some (.inr (a206.1, a206.2.1, r204.2.1, r204.2.2.1, r204.2.2.2.1, r204.2.2.2.2, a9, a206.2.2.1, a206.2.2.2)))) (fun b207 => (cond (!(b207.1 == r204.1)) (cond (r204.2.2.2.2 != 0) (some (.inl (r204.2.1, r204.2.2.1, r204.2.2.2.1, r204.2.2.2.2, (IntKind.wrap .i64 ((IntKind.wrap .i64 (a9 + 1)) + 1)), b207.2.1, b207.2.2))) (some (.inl (r204.2.1, r204.2.2.1, r204.2.2.2.1, r204.2.2.2.2, (IntKind.wrap .i64 (a9 + 1)), b207.2.1, b207.2.2)))) (cond (r204.2.2.2.2 != 0) (some (.inl (r204.2.1, r204.2.2.1, r204.2.2.2.1, r204.2.2.2.2, (IntKind.wrap .i64 (a9 + 1)), b207.2.1, b207.2.2))) (some (.inl (r204.2.1, r204.2.2.1, r204.2.2.2.1, r204.2.2.2.2, a9, b207.2.1, b207.2.2))))))))) (cond ((Int.tmod a0 8) == 5) (ob (circalaw12_player_check n a10 a11 a4 a5 a6 a7 a8 a9) fun y208 => (cond (y208.2.2.2.1 != 0) (some (.inl (y208.1, y208.2.1, y208.2.2.1, y208.2.2.2.1, (IntKind.wrap .i64 (y208.2.2.2.2 + 1)), a10, a11))) (some (.inl (y208.1, y208.2.1, y208.2.2.1, y208.2.2.2.1, y208.2.2.2.2, a10, a11))))) (cond ((Int.tmod a0 8) == 6) (ob (cursors_Cursor_Is n a1 a10 a11) fun y209 => (ob (circaref12_Same n a5 a6 a7 a8 a1) fun r210 => (cond (!(y209 == (r210 == ((List.length a1 : Nat) : Int)))) (cond (a8 != 0) (some (.inl (a5, a6, a7, a8, (IntKind.wrap .i64 ((IntKind.wrap .i64 (a9 + 1)) + 1)), a10, a11))) (some (.inl (a5, a6, a7, a8, (IntKind.wrap .i64 (a9 + 1)), a10, a11)))) (cond (a8 != 0) (some (.inl (a5, a6, a7, a8, (IntKind.wrap .i64 (a9 + 1)), a10, a11))) (some (.inl (a5, a6, a7, a8, a9, a10, a11))))))) (ob (circaref12_Fail n a5 a6 a7 a8 a2 a3) fun r211 => (ob (cursors_Cursor_Fail n a2 a3 a10 a11) fun y212 => (some (.inr (y212.1, y212.2, r211.1, r211.2.1, r211.2.2.1, r211.2.2.2, a9, a10, a11)))))))) (cond ((Int.tmod a0 8) == 4) (ob (circaref12_Some n a5 a6 a7 a8 a1 a2 a3) fun r213 => (ob (cursors_Cursor_Some n a1 a2 a3 a10 a11) fun y214 => (Sum.casesOn (motive := fun _ => Option _) y214 (fun a215 => (some (.inr (a215.1, a215.2.1, r213.2.1, r213.2.2.1, r213.2.2.2.1, r213.2.2.2.2, a9, a215.2.2.1, a215.2.2.2)))) (fun b216 => (cond (!(b216.1 == r213.1)) (cond (r213.2.2.2.2 != 0) (some (.inl (r213.2.1, r213.2.2.1, r213.2.2.2.1, r213.2.2.2.2, (IntKind.wrap .i64 ((IntKind.wrap .i64 (a9 + 1)) + 1)), b216.2.1, b216.2.2))) (some (.inl (r213.2.1, r213.2.2.1, r213.2.2.2.1, r213.2.2.2.2, (IntKind.wrap .i64 (a9 + 1)), b216.2.1, b216.2.2)))) (cond (r213.2.2.2.2 != 0) (some (.inl (r213.2.1, r213.2.2.1, r213.2.2.2.1, r213.2.2.2.2, (IntKind.wrap .i64 (a9 + 1)), b216.2.1, b216.2.2))) (some (.inl (r213.2.1, r213.2.2.1, r213.2.2.2.1, r213.2.2.2.2, a9, b216.2.1, b216.2.2))))))))) (cond ((Int.tmod a0 8) == 5) (ob (circalaw12_player_check n a10 a11 a4 a5 a6 a7 a8 a9) fun y217 => (cond (y217.2.2.2.1 != 0) (some (.inl (y217.1, y217.2.1, y217.2.2.1, y217.2.2.2.1, (IntKind.wrap .i64 (y217.2.2.2.2 + 1)), a10, a11))) (some (.inl (y217.1, y217.2.1, y217.2.2.1, y217.2.2.2.1, y217.2.2.2.2, a10, a11))))) (cond ((Int.tmod a0 8) == 6) (ob (cursors_Cursor_Is n a1 a10 a11) fun y218 => (ob (circaref12_Same n a5 a6 a7 a8 a1) fun r219 => (cond (!(y218 == (r219 == ((List.length a1 : Nat) : Int)))) (cond (a8 != 0) (some (.inl (a5, a6, a7, a8, (IntKind.wrap .i64 ((IntKind.wrap .i64 (a9 + 1)) + 1)), a10, a11))) (some (.inl (a5, a6, a7, a8, (IntKind.wrap .i64 (a9 + 1)), a10, a11)))) (cond (a8 != 0) (some (.inl (a5, a6, a7, a8, (IntKind.wrap .i64 (a9 + 1)), a10, a11))) (some (.inl (a5, a6, a7, a8, a9, a10, a11))))))) (ob (circaref12_Fail n a5 a6 a7 a8 a2 a3) fun r220 => (ob (cursors_Cursor_Fail n a2 a3 a10 a11) fun y221 => (some (.inr (y221.1, y221.2, r220.1, r220.2.1, r220.2.2.1, r220.2.2.2, a9, a10, a11))))))))))))

noncomputable def circalaw12_player_play_l0 (n : Nat) (x : Int × List (Int × List UInt8 × Int × Int) × List UInt8 × Int × Int × Int × Int × List UInt8 × Int) : Option ((Int × List (Int × List UInt8 × Int × Int) × List UInt8 × Int × Int × Int × Int × List UInt8 × Int) ⊕ ((Int × Int × List (Int × List UInt8 × Int × Int) × List UInt8 × Int × Int × Int × Int × List UInt8 × Int) ⊕ (List (Int × List UInt8 × Int × Int) × List UInt8 × Int × Int × Int × Int × List UInt8 × Int))) :=
  (cond (decide (x.1 < (((List.length x.2.1) : Nat) : Int))) (cond (decide (x.1 < 30)) (ob (ix (List.length x.2.1) x.1) fun j229 => (ob (x.2.1[j229]?) fun r230 => (ob (circalaw12_player_one n r230.1 r230.2.1 r230.2.2.1 r230.2.2.2 x.2.1 x.2.2.1 x.2.2.2.1 x.2.2.2.2.1 x.2.2.2.2.2.1 x.2.2.2.2.2.2.1 x.2.2.2.2.2.2.2.1 x.2.2.2.2.2.2.2.2) fun y231 => (Sum.casesOn (motive := fun _ => Option _) y231 (fun a232 => (ob (circalaw12_player_check n a232.2.2.2.2.2.1 a232.2.2.2.2.2.2 x.2.1 a232.1 a232.2.1 a232.2.2.1 a232.2.2.2.1 a232.2.2.2.2.1) fun y234 => (some (.inl ((IntKind.wrap .i64 (x.1 + 1)), x.2.1, y234.1, y234.2.1, y234.2.2.1, y234.2.2.2.1, y234.2.2.2.2, a232.2.2.2.2.2.1, a232.2.2.2.2.2.2))))) (fun b233 => (some (.inr (.inl (b233.1, b233.2.1, x.2.1, b233.2.2.1, b233.2.2.2.1, b233.2.2.2.2.1, b233.2.2.2.2.2.1, b233.2.2.2.2.2.2.1, b233.2.2.2.2.2.2.2.1, b233.2.2.2.2.2.2.2.2))))))))) (some (.inr (.inr (x.2.1, x.2.2.1, x.2.2.2.1, x.2.2.2.2.1, x.2.2.2.2.2.1, x.2.2.2.2.2.2.1, x.2.2.2.2.2.2.2.1, x.2.2.2.2.2.2.2.2))))) (some (.inr (.inr (x.2.1, x.2.2.1, x.2.2.2.1, x.2.2.2.2.1, x.2.2.2.2.2.1, x.2.2.2.2.2.2.1, x.2.2.2.2.2.2.2.1, x.2.2.2.2.2.2.2.2)))))
noncomputable def circalaw12_player_play (n : Nat) (a0 : List (Int × List UInt8 × Int × Int)) (a1 : List UInt8) (a2 : Int) (a3 : Int) (a4 : Int) (a5 : Int) (a6 : List UInt8) (a7 : Int) : Option ((Int × Int × List UInt8 × Int × Int × Int × Int × List UInt8 × Int) ⊕ (List UInt8 × Int × Int × Int × Int × List UInt8 × Int)) :=
  (ob (iterL (circalaw12_player_play_l0 n) n (0, a0, a1, a2, a3, a4, a5, a6, a7)) fun y235 => (Sum.casesOn (motive := fun _ => Option _) y235 (fun a236 => (some (.inl (a236.1, a236.2.1, a236.2.2.2.1, a236.2.2.2.2.1, a236.2.2.2.2.2.1, a236.2.2.2.2.2.2.1, a236.2.2.2.2.2.2.2.1, a236.2.2.2.2.2.2.2.2.1, a236.2.2.2.2.2.2.2.2.2)))) (fun b237 => (some (.inr (b237.2.1, b237.2.2.1, b237.2.2.2.1, b237.2.2.2.2.1, b237.2.2.2.2.2.1, b237.2.2.2.2.2.2.1, b237.2.2.2.2.2.2.2))))))

noncomputable def cursors_Run_v7 (n : Nat) (a0 : List UInt8) (a1 : List (Int × List UInt8 × Int × Int)) (a2 : List UInt8) (a3 : Int) (a4 : Int) (a5 : Int) (a6 : Int) : Option ((Int × Int × List UInt8 × Int × Int × Int × Int)) :=
  (ob (circalaw12_player_play n a1 a2 a3 a4 a5 a6 a0 0) fun y241 => (Sum.casesOn (motive := fun _ => Option _) y241 (fun a242 => (some (a242.1, a242.2.1, a242.2.2.1, a242.2.2.2.1, a242.2.2.2.2.1, a242.2.2.2.2.2.1, a242.2.2.2.2.2.2.1))) (fun b243 => (cond (decide (b243.2.2.2.2.2.2 < ((List.length a0 : Nat) : Int))) (some (b243.2.2.2.2.2.2, 5, b243.1, b243.2.1, b243.2.2.1, b243.2.2.2.1, b243.2.2.2.2.1)) (some (0, 0, b243.1, b243.2.1, b243.2.2.1, b243.2.2.2.1, b243.2.2.2.2.1))))))

noncomputable def circaref12_End (n : Nat) (a0 : List UInt8) (a1 : Int) (a2 : Int) (a3 : Int) : Option (Int × Int) :=
  (cond (a3 != 0) (some (a2, a3)) (cond (decide (a1 < ((List.length a0 : Nat) : Int))) (some (a1, 5)) (some (0, 0))))

noncomputable def circalaw12_CursorsPlay_l0 (n : Nat) (x : List UInt8 × Int × List (Int × List UInt8 × Int × Int)) : Option ((List UInt8 × Int × List (Int × List UInt8 × Int × Int)) ⊕ (Bool ⊕ (List UInt8 × List (Int × List UInt8 × Int × Int)))) :=
  (cond (decide (x.2.1 < (((List.length x.2.2) : Nat) : Int))) (ob (ix (List.length x.2.2) x.2.1) fun j248 => (ob (x.2.2[j248]?) fun r249 => (cond (decide (((List.length r249.2.1 : Nat) : Int) > 40)) (ob (circalaw12_lives n) fun r250 => (some (.inr (.inl r250)))) (some (.inl (x.1, (IntKind.wrap .i64 (x.2.1 + 1)), x.2.2)))))) (some (.inr (.inr (x.1, x.2.2)))))
noncomputable def circalaw12_CursorsPlay (n : Nat) (a0 : List UInt8) (a1 : List (Int × List UInt8 × Int × Int)) : Option (Bool) :=
  (cond (decide (((List.length a0 : Nat) : Int) > 200)) (ob (circalaw12_lives n) fun r247 => (some r247)) (ob (iterL (circalaw12_CursorsPlay_l0 n) n (a0, 0, a1)) fun y251 => (Sum.casesOn (motive := fun _ => Option _) y251 (fun a252 => (some a252)) (fun b253 => (ob (cursors_Run_v7 n b253.1 b253.2 b253.1 0 0 0 0) fun y254 => (ob (circaref12_End n y254.2.2.1 y254.2.2.2.1 y254.2.2.2.2.1 y254.2.2.2.2.2.1) fun r255 => (cond (y254.2.2.2.2.2.2 == 0) (cond (y254.1 == r255.1) (cond (y254.2.1 == r255.2) (ob (circalaw12_lives n) fun r256 => (some r256)) (some false)) (some false)) (some false))))))))

noncomputable def cursors_Run_v8 (n : Nat) (a0 : List UInt8) : Option ((Int × Int)) :=
  (some (0, 2))

noncomputable def cursors_Cursor_Rest_v2 (n : Nat) : Option (List UInt8) :=
  (some [])

noncomputable def cursors_Cursor_Peek_v2 (n : Nat) : Option (Int × Bool) :=
  (ob (cursors_Cursor_Rest_v2 n) fun r260 => (cond (r260 == ([] : List UInt8)) (some (0, false)) none))

noncomputable def cursors_Cursor_Is_v2 (n : Nat) (a0 : List UInt8) : Option (Bool) :=
  (some false)

noncomputable def cursors_Cursor_Take_v2 (n : Nat) (a0 : List UInt8) : Option (Bool) :=
  (ob (cursors_Cursor_Is_v2 n a0) fun r262 => (cond (!r262) (some false) none))

noncomputable def cursors_Cursor_At_v2 (n : Nat) : Option (Int) :=
  (some 0)

noncomputable def cursors_Cursor_Fail_v2 (n : Nat) (a0 : Int) (a1 : Int) : Option (Unit) :=
  (some ())

noncomputable def cursors_Cursor_Want_v2_l0 (n : Nat) (x : List UInt8 × Int × List UInt8) : Option ((List UInt8 × Int × List UInt8) ⊕ (Int)) :=
  (cond (decide (x.2.1 < (cond (decide (((List.length x.1 : Nat) : Int) < ((List.length x.2.2 : Nat) : Int))) ((List.length x.1 : Nat) : Int) ((List.length x.2.2 : Nat) : Int)))) (ob (sx x.2.2 x.2.1) fun c265 => (ob (sx x.1 x.2.1) fun c266 => (cond (((c265.toNat : Nat) : Int) == ((c266.toNat : Nat) : Int)) (some (.inl (x.1, (IntKind.wrap .i64 (x.2.1 + 1)), x.2.2))) (some (.inr x.2.1))))) (some (.inr x.2.1)))
noncomputable def cursors_Cursor_Want_v2 (n : Nat) (a0 : List UInt8) : Option (Unit) :=
  (ob (cursors_Cursor_Take_v2 n a0) fun r263 => (cond r263 (some ()) (ob (cursors_Cursor_Rest_v2 n) fun r264 => (ob (iterL (cursors_Cursor_Want_v2_l0 n) n (a0, 0, r264)) fun y267 => (ob (cursors_Cursor_At_v2 n) fun r268 => (ob (cursors_Cursor_Fail_v2 n (IntKind.wrap .i64 (r268 + y267)) 5) fun r269 => (some ())))))))

noncomputable def cursors_Cursor_One_v2 (n : Nat) (a0 : List UInt8) : Option (Int) :=
  (ob (cursors_Cursor_Peek_v2 n) fun r276 => (cond (!r276.2) (ob (cursors_Cursor_At_v2 n) fun r277 => (ob (cursors_Cursor_Fail_v2 n r277 5) fun r278 => (some 0))) (ob (strings_IndexByte n a0 r276.1) fun r279 => (cond (decide (r279 < 0)) (ob (cursors_Cursor_At_v2 n) fun r280 => (ob (cursors_Cursor_Fail_v2 n r280 5) fun r281 => (some 0))) none))))

noncomputable def cursors_Cursor_Some_v2_l0 (n : Nat) (x : List UInt8 × Int × Int × Int × Int × Bool) : Option ((List UInt8 × Int × Int × Int × Int × Bool) ⊕ ((Int × Int))) :=
  (cond x.2.2.2.2.2 none (some (.inr (x.2.1, x.2.2.2.1))))
noncomputable def cursors_Cursor_Some_v2 (n : Nat) (a0 : List UInt8) (a1 : Int) (a2 : Int) : Option (List UInt8) :=
  (ob (cursors_Cursor_At_v2 n) fun r283 => (ob (cursors_Cursor_Peek_v2 n) fun r284 => (ob (iterL (cursors_Cursor_Some_v2_l0 n) n (a0, a1, a2, r283, r284.1, r284.2)) fun y285 => (ob (cursors_Cursor_At_v2 n) fun r286 => (cond (decide ((IntKind.wrap .i64 (r286 - y285.2)) < y285.1)) (ob (cursors_Cursor_At_v2 n) fun r287 => (ob (cursors_Cursor_Fail_v2 n r287 5) fun r288 => (some []))) (some []))))))

noncomputable def circalaw12_CursorsNil (n : Nat) (a0 : List UInt8) (a1 : Int) (a2 : List UInt8) (a3 : Int) (a4 : Int) : Option (Bool) :=
  (cond (decide (((List.length a0 : Nat) : Int) > 40)) (ob (circalaw12_lives n) fun r257 => (some r257)) (cond (decide (((List.length a2 : Nat) : Int) > 40)) (ob (circalaw12_lives n) fun r258 => (some r258)) (ob (cursors_Run_v8 n a0) fun y259 => (ob (cursors_Cursor_Peek_v2 n) fun r261 => (ob (cursors_Cursor_Want_v2 n a2) fun r270 => (ob (cursors_Cursor_Fail_v2 n a3 6) fun r271 => (cond (y259.1 == 0) (cond (y259.2 == 2) (ob (cursors_Cursor_At_v2 n) fun r272 => (cond (r272 == 0) (ob (cursors_Cursor_Rest_v2 n) fun r273 => (cond (r273 == ([] : List UInt8)) (cond (r261.1 == 0) (cond (!r261.2) (ob (cursors_Cursor_Is_v2 n a2) fun r274 => (cond (!r274) (ob (cursors_Cursor_Take_v2 n a2) fun r275 => (cond (!r275) (ob (cursors_Cursor_One_v2 n a2) fun r282 => (cond (r282 == 0) (ob (cursors_Cursor_Some_v2 n a2 a3 a4) fun r289 => (cond (r289 == ([] : List UInt8)) (ob (circalaw12_lives n) fun r290 => (some r290)) (some false))) (some false))) (some false))) (some false))) (some false)) (some false)) (some false))) (some false))) (some false)) (some false))))))))

noncomputable def circalaw12_CursorsKnown_l3 (n : Nat) (x : Int × Int × Int × Int × List (List UInt8)) : Option ((Int × Int × Int × Int × List (List UInt8)) ⊕ (Bool ⊕ (Int × Int × Int × List (List UInt8)))) :=
  (cond (decide (x.2.2.2.1 < 4)) (ob (ix (List.length x.2.2.2.2) x.1) fun j291 => (ob (x.2.2.2.2[j291]?) fun r292 => (ob (circalaw12_CursorsPlay n [97, 98, 99, 97, 98] ([((IntKind.wrap .u8 x.2.1), r292, x.2.2.1, x.2.2.2.1), (3, [97, 98, 99], 0, 2)] : List (Int × List UInt8 × Int × Int))) fun y293 => (cond (!y293) (some (.inr (.inl false))) (ob (circalaw12_CursorsPlay n [] ([((IntKind.wrap .u8 x.2.1), r292, x.2.2.1, x.2.2.2.1), (3, [97, 98, 99], 0, 2)] : List (Int × List UInt8 × Int × Int))) fun y294 => (cond (!y294) (some (.inr (.inl false))) (some (.inl (x.1, x.2.1, x.2.2.1, (IntKind.wrap .i64 (x.2.2.2.1 + 1)), x.2.2.2.2))))))))) (some (.inr (.inr (x.1, x.2.1, x.2.2.1, x.2.2.2.2)))))
noncomputable def circalaw12_CursorsKnown_l2 (n : Nat) (x : Int × Int × Int × List (List UInt8)) : Option ((Int × Int × Int × List (List UInt8)) ⊕ (Bool ⊕ (Int × Int × List (List UInt8)))) :=
  (cond (decide (x.2.2.1 < 4)) (ob (iterL (circalaw12_CursorsKnown_l3 n) n (x.1, x.2.1, x.2.2.1, (-1), x.2.2.2)) fun y295 => (Sum.casesOn (motive := fun _ => Option _) y295 (fun a296 => (some (.inr (.inl a296)))) (fun b297 => (some (.inl (b297.1, b297.2.1, (IntKind.wrap .i64 (b297.2.2.1 + 1)), b297.2.2.2)))))) (some (.inr (.inr (x.1, x.2.1, x.2.2.2)))))
noncomputable def circalaw12_CursorsKnown_l1 (n : Nat) (x : Int × Int × List (List UInt8)) : Option ((Int × Int × List (List UInt8)) ⊕ (Bool ⊕ (Int × List (List UInt8)))) :=
  (cond (decide (x.2.1 < 8)) (ob (iterL (circalaw12_CursorsKnown_l2 n) n (x.1, x.2.1, (-1), x.2.2)) fun y298 => (Sum.casesOn (motive := fun _ => Option _) y298 (fun a299 => (some (.inr (.inl a299)))) (fun b300 => (some (.inl (b300.1, (IntKind.wrap .i64 (b300.2.1 + 1)), b300.2.2)))))) (some (.inr (.inr (x.1, x.2.2)))))
noncomputable def circalaw12_CursorsKnown_l0 (n : Nat) (x : Int × List (List UInt8)) : Option ((Int × List (List UInt8)) ⊕ (Bool ⊕ Unit)) :=
  (cond (decide (x.1 < (((List.length x.2) : Nat) : Int))) (ob (iterL (circalaw12_CursorsKnown_l1 n) n (x.1, 0, x.2)) fun y301 => (Sum.casesOn (motive := fun _ => Option _) y301 (fun a302 => (some (.inr (.inl a302)))) (fun b303 => (some (.inl ((IntKind.wrap .i64 (b303.1 + 1)), b303.2)))))) (some (.inr (.inr ()))))
noncomputable def circalaw12_CursorsKnown (n : Nat) : Option (Bool) :=
  (ob (iterL (circalaw12_CursorsKnown_l0 n) n (0, ([[], [97], [97, 98], [97, 98, 99], [97, 98, 99, 100], [98], [97, 98, 120]] : List (List UInt8)))) fun y304 => (Sum.casesOn (motive := fun _ => Option _) y304 (fun a305 => (some a305)) (fun b306 => (ob (circalaw12_lives n) fun r307 => (some r307)))))

end Go.Sh
