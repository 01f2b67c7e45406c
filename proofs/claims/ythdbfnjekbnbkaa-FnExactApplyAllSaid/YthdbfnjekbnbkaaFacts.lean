/- What the types of the program are; each fact is checked. Conditions: none. -/
import Derived.Test.YthdbfnjekbnbkaaAb2
import Derived.Test.YthdbfnjekbnbkaaProg
namespace Go.Ab
open Go.RowKit Go.Proofs
theorem mo : Try.prog.follows .mixedOrders = true := by kernel_rfl
theorem tk2 : tk Try.prog 2 = .int .i64 := by kernel_rfl
theorem csz2 : csz Try.prog 2 = some 1 := by kernel_rfl
theorem bsz2 : bsz Try.prog 2 = some 8 := by kernel_rfl
theorem zro2 : zro Try.prog 2 = some (.int .i64 0) := by kernel_rfl
theorem agg2 : aggT Try.prog 2 = some false := by kernel_rfl
theorem tk3 : tk Try.prog 3 = .int .i64 := by kernel_rfl
theorem csz3 : csz Try.prog 3 = some 1 := by kernel_rfl
theorem bsz3 : bsz Try.prog 3 = some 8 := by kernel_rfl
theorem zro3 : zro Try.prog 3 = some (.int .i64 0) := by kernel_rfl
theorem agg3 : aggT Try.prog 3 = some false := by kernel_rfl
theorem tk4 : tk Try.prog 4 = .bool := by kernel_rfl
theorem csz4 : csz Try.prog 4 = some 1 := by kernel_rfl
theorem bsz4 : bsz Try.prog 4 = some 1 := by kernel_rfl
theorem zro4 : zro Try.prog 4 = some (.bool false) := by kernel_rfl
theorem agg4 : aggT Try.prog 4 = some false := by kernel_rfl
theorem tk5 : tk Try.prog 5 = .int .u8 := by kernel_rfl
theorem csz5 : csz Try.prog 5 = some 1 := by kernel_rfl
theorem bsz5 : bsz Try.prog 5 = some 1 := by kernel_rfl
theorem zro5 : zro Try.prog 5 = some (.int .u8 0) := by kernel_rfl
theorem agg5 : aggT Try.prog 5 = some false := by kernel_rfl
theorem tk6 : tk Try.prog 6 = .int .u8 := by kernel_rfl
theorem csz6 : csz Try.prog 6 = some 1 := by kernel_rfl
theorem bsz6 : bsz Try.prog 6 = some 1 := by kernel_rfl
theorem zro6 : zro Try.prog 6 = some (.int .u8 0) := by kernel_rfl
theorem agg6 : aggT Try.prog 6 = some false := by kernel_rfl
theorem tk7 : tk Try.prog 7 = .struct [(2, 0), (3, 1), (4, 2), (6, 3)] := by kernel_rfl
theorem csz7 : csz Try.prog 7 = some 4 := by kernel_rfl
theorem bsz7 : bsz Try.prog 7 = some 24 := by kernel_rfl
theorem zro7 : zro Try.prog 7 = some (.agg [.int .i64 0, .int .i64 0, .bool false, .int .u8 0]) := by kernel_rfl
theorem agg7 : aggT Try.prog 7 = some true := by kernel_rfl
theorem plc7 : plcF Try.prog 7 = some (plcL [(0, 1), (1, 1), (2, 1), (3, 1)]) := by
  have h : plc Try.prog 7 = some [(0, 1), (1, 1), (2, 1), (3, 1)] := by kernel_rfl
  simp only [plcF, tk7, h, Option.map_some]; rfl
theorem eqt7 : eqTypes Try.prog 7 = true := by kernel_rfl
theorem tk8 : tk Try.prog 8 = .struct [(2, 0), (3, 1), (4, 2), (6, 3)] := by kernel_rfl
theorem csz8 : csz Try.prog 8 = some 4 := by kernel_rfl
theorem bsz8 : bsz Try.prog 8 = some 24 := by kernel_rfl
theorem zro8 : zro Try.prog 8 = some (.agg [.int .i64 0, .int .i64 0, .bool false, .int .u8 0]) := by kernel_rfl
theorem agg8 : aggT Try.prog 8 = some true := by kernel_rfl
theorem plc8 : plcF Try.prog 8 = some (plcL [(0, 1), (1, 1), (2, 1), (3, 1)]) := by
  have h : plc Try.prog 8 = some [(0, 1), (1, 1), (2, 1), (3, 1)] := by kernel_rfl
  simp only [plcF, tk8, h, Option.map_some]; rfl
theorem eqt8 : eqTypes Try.prog 8 = true := by kernel_rfl
theorem tk9 : tk Try.prog 9 = .str := by kernel_rfl
theorem csz9 : csz Try.prog 9 = some 1 := by kernel_rfl
theorem bsz9 : bsz Try.prog 9 = some 16 := by kernel_rfl
theorem zro9 : zro Try.prog 9 = some (.str []) := by kernel_rfl
theorem agg9 : aggT Try.prog 9 = some false := by kernel_rfl
theorem tk10 : tk Try.prog 10 = .str := by kernel_rfl
theorem csz10 : csz Try.prog 10 = some 1 := by kernel_rfl
theorem bsz10 : bsz Try.prog 10 = some 16 := by kernel_rfl
theorem zro10 : zro Try.prog 10 = some (.str []) := by kernel_rfl
theorem agg10 : aggT Try.prog 10 = some false := by kernel_rfl
theorem tk11 : tk Try.prog 11 = .str := by kernel_rfl
theorem csz11 : csz Try.prog 11 = some 1 := by kernel_rfl
theorem bsz11 : bsz Try.prog 11 = some 16 := by kernel_rfl
theorem zro11 : zro Try.prog 11 = some (.str []) := by kernel_rfl
theorem agg11 : aggT Try.prog 11 = some false := by kernel_rfl
theorem tk12 : tk Try.prog 12 = .int .u64 := by kernel_rfl
theorem csz12 : csz Try.prog 12 = some 1 := by kernel_rfl
theorem bsz12 : bsz Try.prog 12 = some 8 := by kernel_rfl
theorem zro12 : zro Try.prog 12 = some (.int .u64 0) := by kernel_rfl
theorem agg12 : aggT Try.prog 12 = some false := by kernel_rfl
theorem tk13 : tk Try.prog 13 = .struct [(9, 0), (12, 1)] := by kernel_rfl
theorem csz13 : csz Try.prog 13 = some 2 := by kernel_rfl
theorem bsz13 : bsz Try.prog 13 = some 24 := by kernel_rfl
theorem zro13 : zro Try.prog 13 = some (.agg [.str [], .int .u64 0]) := by kernel_rfl
theorem agg13 : aggT Try.prog 13 = some true := by kernel_rfl
theorem plc13 : plcF Try.prog 13 = some (plcL [(0, 1), (1, 1)]) := by
  have h : plc Try.prog 13 = some [(0, 1), (1, 1)] := by kernel_rfl
  simp only [plcF, tk13, h, Option.map_some]; rfl
theorem tk14 : tk Try.prog 14 = .struct [(9, 0), (12, 1)] := by kernel_rfl
theorem csz14 : csz Try.prog 14 = some 2 := by kernel_rfl
theorem bsz14 : bsz Try.prog 14 = some 24 := by kernel_rfl
theorem zro14 : zro Try.prog 14 = some (.agg [.str [], .int .u64 0]) := by kernel_rfl
theorem agg14 : aggT Try.prog 14 = some true := by kernel_rfl
theorem plc14 : plcF Try.prog 14 = some (plcL [(0, 1), (1, 1)]) := by
  have h : plc Try.prog 14 = some [(0, 1), (1, 1)] := by kernel_rfl
  simp only [plcF, tk14, h, Option.map_some]; rfl
theorem tk15 : tk Try.prog 15 = .ptr 157 := by kernel_rfl
theorem csz15 : csz Try.prog 15 = some 1 := by kernel_rfl
theorem bsz15 : bsz Try.prog 15 = some 8 := by kernel_rfl
theorem agg15 : aggT Try.prog 15 = some false := by kernel_rfl
theorem tk16 : tk Try.prog 16 = .ptr 160 := by kernel_rfl
theorem csz16 : csz Try.prog 16 = some 1 := by kernel_rfl
theorem bsz16 : bsz Try.prog 16 = some 8 := by kernel_rfl
theorem agg16 : aggT Try.prog 16 = some false := by kernel_rfl
theorem tk17 : tk Try.prog 17 = .ptr 168 := by kernel_rfl
theorem csz17 : csz Try.prog 17 = some 1 := by kernel_rfl
theorem bsz17 : bsz Try.prog 17 = some 8 := by kernel_rfl
theorem agg17 : aggT Try.prog 17 = some false := by kernel_rfl
theorem tk18 : tk Try.prog 18 = .struct [(17, 0)] := by kernel_rfl
theorem csz18 : csz Try.prog 18 = some 1 := by kernel_rfl
theorem bsz18 : bsz Try.prog 18 = some 8 := by kernel_rfl
theorem agg18 : aggT Try.prog 18 = some true := by kernel_rfl
theorem plc18 : plcF Try.prog 18 = some (plcL [(0, 1)]) := by
  have h : plc Try.prog 18 = some [(0, 1)] := by kernel_rfl
  simp only [plcF, tk18, h, Option.map_some]; rfl
theorem tk19 : tk Try.prog 19 = .struct [(17, 0)] := by kernel_rfl
theorem csz19 : csz Try.prog 19 = some 1 := by kernel_rfl
theorem bsz19 : bsz Try.prog 19 = some 8 := by kernel_rfl
theorem agg19 : aggT Try.prog 19 = some true := by kernel_rfl
theorem plc19 : plcF Try.prog 19 = some (plcL [(0, 1)]) := by
  have h : plc Try.prog 19 = some [(0, 1)] := by kernel_rfl
  simp only [plcF, tk19, h, Option.map_some]; rfl
theorem tk21 : tk Try.prog 21 = .int .i32 := by kernel_rfl
theorem csz21 : csz Try.prog 21 = some 1 := by kernel_rfl
theorem bsz21 : bsz Try.prog 21 = some 4 := by kernel_rfl
theorem zro21 : zro Try.prog 21 = some (.int .i32 0) := by kernel_rfl
theorem agg21 : aggT Try.prog 21 = some false := by kernel_rfl
theorem tk22 : tk Try.prog 22 = .slice 122 := by kernel_rfl
theorem csz22 : csz Try.prog 22 = some 1 := by kernel_rfl
theorem bsz22 : bsz Try.prog 22 = some 24 := by kernel_rfl
theorem zro22 : zro Try.prog 22 = some (.nil) := by kernel_rfl
theorem agg22 : aggT Try.prog 22 = some false := by kernel_rfl
theorem tk23 : tk Try.prog 23 = .struct [(2, 0), (2, 1), (2, 2), (2, 3), (22, 4)] := by kernel_rfl
theorem csz23 : csz Try.prog 23 = some 5 := by kernel_rfl
theorem bsz23 : bsz Try.prog 23 = some 56 := by kernel_rfl
theorem zro23 : zro Try.prog 23 = some (.agg [.int .i64 0, .int .i64 0, .int .i64 0, .int .i64 0, .nil]) := by kernel_rfl
theorem agg23 : aggT Try.prog 23 = some true := by kernel_rfl
theorem plc23 : plcF Try.prog 23 = some (plcL [(0, 1), (1, 1), (2, 1), (3, 1), (4, 1)]) := by
  have h : plc Try.prog 23 = some [(0, 1), (1, 1), (2, 1), (3, 1), (4, 1)] := by kernel_rfl
  simp only [plcF, tk23, h, Option.map_some]; rfl
theorem tk24 : tk Try.prog 24 = .struct [(2, 0), (2, 1), (2, 2), (2, 3), (22, 4)] := by kernel_rfl
theorem csz24 : csz Try.prog 24 = some 5 := by kernel_rfl
theorem bsz24 : bsz Try.prog 24 = some 56 := by kernel_rfl
theorem zro24 : zro Try.prog 24 = some (.agg [.int .i64 0, .int .i64 0, .int .i64 0, .int .i64 0, .nil]) := by kernel_rfl
theorem agg24 : aggT Try.prog 24 = some true := by kernel_rfl
theorem plc24 : plcF Try.prog 24 = some (plcL [(0, 1), (1, 1), (2, 1), (3, 1), (4, 1)]) := by
  have h : plc Try.prog 24 = some [(0, 1), (1, 1), (2, 1), (3, 1), (4, 1)] := by kernel_rfl
  simp only [plcF, tk24, h, Option.map_some]; rfl
theorem tk28 : tk Try.prog 28 = .slice 78 := by kernel_rfl
theorem csz28 : csz Try.prog 28 = some 1 := by kernel_rfl
theorem bsz28 : bsz Try.prog 28 = some 24 := by kernel_rfl
theorem zro28 : zro Try.prog 28 = some (.nil) := by kernel_rfl
theorem agg28 : aggT Try.prog 28 = some false := by kernel_rfl
theorem tk29 : tk Try.prog 29 = .struct [(2, 0), (2, 1), (2, 2), (2, 3), (28, 4)] := by kernel_rfl
theorem csz29 : csz Try.prog 29 = some 5 := by kernel_rfl
theorem bsz29 : bsz Try.prog 29 = some 56 := by kernel_rfl
theorem zro29 : zro Try.prog 29 = some (.agg [.int .i64 0, .int .i64 0, .int .i64 0, .int .i64 0, .nil]) := by kernel_rfl
theorem agg29 : aggT Try.prog 29 = some true := by kernel_rfl
theorem plc29 : plcF Try.prog 29 = some (plcL [(0, 1), (1, 1), (2, 1), (3, 1), (4, 1)]) := by
  have h : plc Try.prog 29 = some [(0, 1), (1, 1), (2, 1), (3, 1), (4, 1)] := by kernel_rfl
  simp only [plcF, tk29, h, Option.map_some]; rfl
theorem tk30 : tk Try.prog 30 = .struct [(2, 0), (2, 1), (2, 2), (2, 3), (28, 4)] := by kernel_rfl
theorem csz30 : csz Try.prog 30 = some 5 := by kernel_rfl
theorem bsz30 : bsz Try.prog 30 = some 56 := by kernel_rfl
theorem zro30 : zro Try.prog 30 = some (.agg [.int .i64 0, .int .i64 0, .int .i64 0, .int .i64 0, .nil]) := by kernel_rfl
theorem agg30 : aggT Try.prog 30 = some true := by kernel_rfl
theorem plc30 : plcF Try.prog 30 = some (plcL [(0, 1), (1, 1), (2, 1), (3, 1), (4, 1)]) := by
  have h : plc Try.prog 30 = some [(0, 1), (1, 1), (2, 1), (3, 1), (4, 1)] := by kernel_rfl
  simp only [plcF, tk30, h, Option.map_some]; rfl
theorem tk34 : tk Try.prog 34 = .slice 9 := by kernel_rfl
theorem csz34 : csz Try.prog 34 = some 1 := by kernel_rfl
theorem bsz34 : bsz Try.prog 34 = some 24 := by kernel_rfl
theorem zro34 : zro Try.prog 34 = some (.nil) := by kernel_rfl
theorem agg34 : aggT Try.prog 34 = some false := by kernel_rfl
theorem tk36 : tk Try.prog 36 = .struct [(2, 0), (2, 1), (9, 2)] := by kernel_rfl
theorem csz36 : csz Try.prog 36 = some 3 := by kernel_rfl
theorem bsz36 : bsz Try.prog 36 = some 32 := by kernel_rfl
theorem zro36 : zro Try.prog 36 = some (.agg [.int .i64 0, .int .i64 0, .str []]) := by kernel_rfl
theorem agg36 : aggT Try.prog 36 = some true := by kernel_rfl
theorem plc36 : plcF Try.prog 36 = some (plcL [(0, 1), (1, 1), (2, 1)]) := by
  have h : plc Try.prog 36 = some [(0, 1), (1, 1), (2, 1)] := by kernel_rfl
  simp only [plcF, tk36, h, Option.map_some]; rfl
theorem eqt36 : eqTypes Try.prog 36 = true := by kernel_rfl
theorem tk37 : tk Try.prog 37 = .struct [(2, 0), (2, 1), (9, 2)] := by kernel_rfl
theorem csz37 : csz Try.prog 37 = some 3 := by kernel_rfl
theorem bsz37 : bsz Try.prog 37 = some 32 := by kernel_rfl
theorem zro37 : zro Try.prog 37 = some (.agg [.int .i64 0, .int .i64 0, .str []]) := by kernel_rfl
theorem agg37 : aggT Try.prog 37 = some true := by kernel_rfl
theorem plc37 : plcF Try.prog 37 = some (plcL [(0, 1), (1, 1), (2, 1)]) := by
  have h : plc Try.prog 37 = some [(0, 1), (1, 1), (2, 1)] := by kernel_rfl
  simp only [plcF, tk37, h, Option.map_some]; rfl
theorem eqt37 : eqTypes Try.prog 37 = true := by kernel_rfl
theorem tk48 : tk Try.prog 48 = .slice 5 := by kernel_rfl
theorem csz48 : csz Try.prog 48 = some 1 := by kernel_rfl
theorem bsz48 : bsz Try.prog 48 = some 24 := by kernel_rfl
theorem zro48 : zro Try.prog 48 = some (.nil) := by kernel_rfl
theorem agg48 : aggT Try.prog 48 = some false := by kernel_rfl
theorem tk54 : tk Try.prog 54 = .slice 30 := by kernel_rfl
theorem csz54 : csz Try.prog 54 = some 1 := by kernel_rfl
theorem bsz54 : bsz Try.prog 54 = some 24 := by kernel_rfl
theorem zro54 : zro Try.prog 54 = some (.nil) := by kernel_rfl
theorem agg54 : aggT Try.prog 54 = some false := by kernel_rfl
theorem tk64 : tk Try.prog 64 = .slice 24 := by kernel_rfl
theorem csz64 : csz Try.prog 64 = some 1 := by kernel_rfl
theorem bsz64 : bsz Try.prog 64 = some 24 := by kernel_rfl
theorem zro64 : zro Try.prog 64 = some (.nil) := by kernel_rfl
theorem agg64 : aggT Try.prog 64 = some false := by kernel_rfl
theorem tk73 : tk Try.prog 73 = .ptr 30 := by kernel_rfl
theorem csz73 : csz Try.prog 73 = some 1 := by kernel_rfl
theorem bsz73 : bsz Try.prog 73 = some 8 := by kernel_rfl
theorem agg73 : aggT Try.prog 73 = some false := by kernel_rfl
theorem tk77 : tk Try.prog 77 = .struct [(2, 0), (9, 1), (9, 2)] := by kernel_rfl
theorem csz77 : csz Try.prog 77 = some 3 := by kernel_rfl
theorem bsz77 : bsz Try.prog 77 = some 40 := by kernel_rfl
theorem zro77 : zro Try.prog 77 = some (.agg [.int .i64 0, .str [], .str []]) := by kernel_rfl
theorem agg77 : aggT Try.prog 77 = some true := by kernel_rfl
theorem plc77 : plcF Try.prog 77 = some (plcL [(0, 1), (1, 1), (2, 1)]) := by
  have h : plc Try.prog 77 = some [(0, 1), (1, 1), (2, 1)] := by kernel_rfl
  simp only [plcF, tk77, h, Option.map_some]; rfl
theorem eqt77 : eqTypes Try.prog 77 = true := by kernel_rfl
theorem tk78 : tk Try.prog 78 = .struct [(2, 0), (9, 1), (9, 2)] := by kernel_rfl
theorem csz78 : csz Try.prog 78 = some 3 := by kernel_rfl
theorem bsz78 : bsz Try.prog 78 = some 40 := by kernel_rfl
theorem zro78 : zro Try.prog 78 = some (.agg [.int .i64 0, .str [], .str []]) := by kernel_rfl
theorem agg78 : aggT Try.prog 78 = some true := by kernel_rfl
theorem plc78 : plcF Try.prog 78 = some (plcL [(0, 1), (1, 1), (2, 1)]) := by
  have h : plc Try.prog 78 = some [(0, 1), (1, 1), (2, 1)] := by kernel_rfl
  simp only [plcF, tk78, h, Option.map_some]; rfl
theorem eqt78 : eqTypes Try.prog 78 = true := by kernel_rfl
theorem tk85 : tk Try.prog 85 = .ptr 87 := by kernel_rfl
theorem csz85 : csz Try.prog 85 = some 1 := by kernel_rfl
theorem bsz85 : bsz Try.prog 85 = some 8 := by kernel_rfl
theorem agg85 : aggT Try.prog 85 = some false := by kernel_rfl
theorem tk86 : tk Try.prog 86 = .struct [(9, 0), (2, 1), (4, 2)] := by kernel_rfl
theorem csz86 : csz Try.prog 86 = some 3 := by kernel_rfl
theorem bsz86 : bsz Try.prog 86 = some 32 := by kernel_rfl
theorem zro86 : zro Try.prog 86 = some (.agg [.str [], .int .i64 0, .bool false]) := by kernel_rfl
theorem agg86 : aggT Try.prog 86 = some true := by kernel_rfl
theorem plc86 : plcF Try.prog 86 = some (plcL [(0, 1), (1, 1), (2, 1)]) := by
  have h : plc Try.prog 86 = some [(0, 1), (1, 1), (2, 1)] := by kernel_rfl
  simp only [plcF, tk86, h, Option.map_some]; rfl
theorem eqt86 : eqTypes Try.prog 86 = true := by kernel_rfl
theorem tk87 : tk Try.prog 87 = .struct [(9, 0), (2, 1), (4, 2)] := by kernel_rfl
theorem csz87 : csz Try.prog 87 = some 3 := by kernel_rfl
theorem bsz87 : bsz Try.prog 87 = some 32 := by kernel_rfl
theorem zro87 : zro Try.prog 87 = some (.agg [.str [], .int .i64 0, .bool false]) := by kernel_rfl
theorem agg87 : aggT Try.prog 87 = some true := by kernel_rfl
theorem plc87 : plcF Try.prog 87 = some (plcL [(0, 1), (1, 1), (2, 1)]) := by
  have h : plc Try.prog 87 = some [(0, 1), (1, 1), (2, 1)] := by kernel_rfl
  simp only [plcF, tk87, h, Option.map_some]; rfl
theorem eqt87 : eqTypes Try.prog 87 = true := by kernel_rfl
theorem tk91 : tk Try.prog 91 = .arr 5 2 := by kernel_rfl
theorem csz91 : csz Try.prog 91 = some 5 := by kernel_rfl
theorem bsz91 : bsz Try.prog 91 = some 40 := by kernel_rfl
theorem zro91 : zro Try.prog 91 = some (.agg [.int .i64 0, .int .i64 0, .int .i64 0, .int .i64 0, .int .i64 0]) := by kernel_rfl
theorem agg91 : aggT Try.prog 91 = some true := by kernel_rfl
theorem plc91 : plcF Try.prog 91 = some (plcM 1) := by
  simp only [plcF, tk91, csz2, Option.map_some]; rfl
theorem tk95 : tk Try.prog 95 = .ptr 135 := by kernel_rfl
theorem csz95 : csz Try.prog 95 = some 1 := by kernel_rfl
theorem bsz95 : bsz Try.prog 95 = some 8 := by kernel_rfl
theorem agg95 : aggT Try.prog 95 = some false := by kernel_rfl
theorem tk100 : tk Try.prog 100 = .slice 104 := by kernel_rfl
theorem csz100 : csz Try.prog 100 = some 1 := by kernel_rfl
theorem bsz100 : bsz Try.prog 100 = some 24 := by kernel_rfl
theorem zro100 : zro Try.prog 100 = some (.nil) := by kernel_rfl
theorem agg100 : aggT Try.prog 100 = some false := by kernel_rfl
theorem tk103 : tk Try.prog 103 = .struct [(3, 0), (3, 1)] := by kernel_rfl
theorem csz103 : csz Try.prog 103 = some 2 := by kernel_rfl
theorem bsz103 : bsz Try.prog 103 = some 16 := by kernel_rfl
theorem zro103 : zro Try.prog 103 = some (.agg [.int .i64 0, .int .i64 0]) := by kernel_rfl
theorem agg103 : aggT Try.prog 103 = some true := by kernel_rfl
theorem plc103 : plcF Try.prog 103 = some (plcL [(0, 1), (1, 1)]) := by
  have h : plc Try.prog 103 = some [(0, 1), (1, 1)] := by kernel_rfl
  simp only [plcF, tk103, h, Option.map_some]; rfl
theorem eqt103 : eqTypes Try.prog 103 = true := by kernel_rfl
theorem tk104 : tk Try.prog 104 = .struct [(3, 0), (3, 1)] := by kernel_rfl
theorem csz104 : csz Try.prog 104 = some 2 := by kernel_rfl
theorem bsz104 : bsz Try.prog 104 = some 16 := by kernel_rfl
theorem zro104 : zro Try.prog 104 = some (.agg [.int .i64 0, .int .i64 0]) := by kernel_rfl
theorem agg104 : aggT Try.prog 104 = some true := by kernel_rfl
theorem plc104 : plcF Try.prog 104 = some (plcL [(0, 1), (1, 1)]) := by
  have h : plc Try.prog 104 = some [(0, 1), (1, 1)] := by kernel_rfl
  simp only [plcF, tk104, h, Option.map_some]; rfl
theorem eqt104 : eqTypes Try.prog 104 = true := by kernel_rfl
theorem tk111 : tk Try.prog 111 = .ptr 113 := by kernel_rfl
theorem csz111 : csz Try.prog 111 = some 1 := by kernel_rfl
theorem bsz111 : bsz Try.prog 111 = some 8 := by kernel_rfl
theorem agg111 : aggT Try.prog 111 = some false := by kernel_rfl
theorem tk112 : tk Try.prog 112 = .struct [(111, 0), (48, 1)] := by kernel_rfl
theorem csz112 : csz Try.prog 112 = some 2 := by kernel_rfl
theorem bsz112 : bsz Try.prog 112 = some 32 := by kernel_rfl
theorem agg112 : aggT Try.prog 112 = some true := by kernel_rfl
theorem plc112 : plcF Try.prog 112 = some (plcL [(0, 1), (1, 1)]) := by
  have h : plc Try.prog 112 = some [(0, 1), (1, 1)] := by kernel_rfl
  simp only [plcF, tk112, h, Option.map_some]; rfl
theorem tk113 : tk Try.prog 113 = .struct [(111, 0), (48, 1)] := by kernel_rfl
theorem csz113 : csz Try.prog 113 = some 2 := by kernel_rfl
theorem bsz113 : bsz Try.prog 113 = some 32 := by kernel_rfl
theorem agg113 : aggT Try.prog 113 = some true := by kernel_rfl
theorem plc113 : plcF Try.prog 113 = some (plcL [(0, 1), (1, 1)]) := by
  have h : plc Try.prog 113 = some [(0, 1), (1, 1)] := by kernel_rfl
  simp only [plcF, tk113, h, Option.map_some]; rfl
theorem tk122 : tk Try.prog 122 = .struct [(2, 0), (9, 1), (9, 2)] := by kernel_rfl
theorem csz122 : csz Try.prog 122 = some 3 := by kernel_rfl
theorem bsz122 : bsz Try.prog 122 = some 40 := by kernel_rfl
theorem zro122 : zro Try.prog 122 = some (.agg [.int .i64 0, .str [], .str []]) := by kernel_rfl
theorem agg122 : aggT Try.prog 122 = some true := by kernel_rfl
theorem plc122 : plcF Try.prog 122 = some (plcL [(0, 1), (1, 1), (2, 1)]) := by
  have h : plc Try.prog 122 = some [(0, 1), (1, 1), (2, 1)] := by kernel_rfl
  simp only [plcF, tk122, h, Option.map_some]; rfl
theorem eqt122 : eqTypes Try.prog 122 = true := by kernel_rfl
theorem tk123 : tk Try.prog 123 = .ptr 78 := by kernel_rfl
theorem csz123 : csz Try.prog 123 = some 1 := by kernel_rfl
theorem bsz123 : bsz Try.prog 123 = some 8 := by kernel_rfl
theorem agg123 : aggT Try.prog 123 = some false := by kernel_rfl
theorem tk127 : tk Try.prog 127 = .int .u64 := by kernel_rfl
theorem csz127 : csz Try.prog 127 = some 1 := by kernel_rfl
theorem bsz127 : bsz Try.prog 127 = some 8 := by kernel_rfl
theorem zro127 : zro Try.prog 127 = some (.int .u64 0) := by kernel_rfl
theorem agg127 : aggT Try.prog 127 = some false := by kernel_rfl
theorem tk133 : tk Try.prog 133 = .int .u64 := by kernel_rfl
theorem csz133 : csz Try.prog 133 = some 1 := by kernel_rfl
theorem bsz133 : bsz Try.prog 133 = some 8 := by kernel_rfl
theorem zro133 : zro Try.prog 133 = some (.int .u64 0) := by kernel_rfl
theorem agg133 : aggT Try.prog 133 = some false := by kernel_rfl
theorem tk134 : tk Try.prog 134 = .struct [(48, 0), (3, 1), (133, 2)] := by kernel_rfl
theorem csz134 : csz Try.prog 134 = some 3 := by kernel_rfl
theorem bsz134 : bsz Try.prog 134 = some 40 := by kernel_rfl
theorem zro134 : zro Try.prog 134 = some (.agg [.nil, .int .i64 0, .int .u64 0]) := by kernel_rfl
theorem agg134 : aggT Try.prog 134 = some true := by kernel_rfl
theorem plc134 : plcF Try.prog 134 = some (plcL [(0, 1), (1, 1), (2, 1)]) := by
  have h : plc Try.prog 134 = some [(0, 1), (1, 1), (2, 1)] := by kernel_rfl
  simp only [plcF, tk134, h, Option.map_some]; rfl
theorem tk135 : tk Try.prog 135 = .struct [(48, 0), (3, 1), (133, 2)] := by kernel_rfl
theorem csz135 : csz Try.prog 135 = some 3 := by kernel_rfl
theorem bsz135 : bsz Try.prog 135 = some 40 := by kernel_rfl
theorem zro135 : zro Try.prog 135 = some (.agg [.nil, .int .i64 0, .int .u64 0]) := by kernel_rfl
theorem agg135 : aggT Try.prog 135 = some true := by kernel_rfl
theorem plc135 : plcF Try.prog 135 = some (plcL [(0, 1), (1, 1), (2, 1)]) := by
  have h : plc Try.prog 135 = some [(0, 1), (1, 1), (2, 1)] := by kernel_rfl
  simp only [plcF, tk135, h, Option.map_some]; rfl
theorem tk139 : tk Try.prog 139 = .ptr 5 := by kernel_rfl
theorem csz139 : csz Try.prog 139 = some 1 := by kernel_rfl
theorem bsz139 : bsz Try.prog 139 = some 8 := by kernel_rfl
theorem agg139 : aggT Try.prog 139 = some false := by kernel_rfl
theorem tk140 : tk Try.prog 140 = .slice 142 := by kernel_rfl
theorem csz140 : csz Try.prog 140 = some 1 := by kernel_rfl
theorem bsz140 : bsz Try.prog 140 = some 24 := by kernel_rfl
theorem zro140 : zro Try.prog 140 = some (.nil) := by kernel_rfl
theorem agg140 : aggT Try.prog 140 = some false := by kernel_rfl
theorem tk141 : tk Try.prog 141 = .struct [(2, 0), (2, 1), (4, 2)] := by kernel_rfl
theorem csz141 : csz Try.prog 141 = some 3 := by kernel_rfl
theorem bsz141 : bsz Try.prog 141 = some 24 := by kernel_rfl
theorem zro141 : zro Try.prog 141 = some (.agg [.int .i64 0, .int .i64 0, .bool false]) := by kernel_rfl
theorem agg141 : aggT Try.prog 141 = some true := by kernel_rfl
theorem plc141 : plcF Try.prog 141 = some (plcL [(0, 1), (1, 1), (2, 1)]) := by
  have h : plc Try.prog 141 = some [(0, 1), (1, 1), (2, 1)] := by kernel_rfl
  simp only [plcF, tk141, h, Option.map_some]; rfl
theorem eqt141 : eqTypes Try.prog 141 = true := by kernel_rfl
theorem tk142 : tk Try.prog 142 = .struct [(2, 0), (2, 1), (4, 2)] := by kernel_rfl
theorem csz142 : csz Try.prog 142 = some 3 := by kernel_rfl
theorem bsz142 : bsz Try.prog 142 = some 24 := by kernel_rfl
theorem zro142 : zro Try.prog 142 = some (.agg [.int .i64 0, .int .i64 0, .bool false]) := by kernel_rfl
theorem agg142 : aggT Try.prog 142 = some true := by kernel_rfl
theorem plc142 : plcF Try.prog 142 = some (plcL [(0, 1), (1, 1), (2, 1)]) := by
  have h : plc Try.prog 142 = some [(0, 1), (1, 1), (2, 1)] := by kernel_rfl
  simp only [plcF, tk142, h, Option.map_some]; rfl
theorem eqt142 : eqTypes Try.prog 142 = true := by kernel_rfl
theorem tk153 : tk Try.prog 153 = .int .u32 := by kernel_rfl
theorem csz153 : csz Try.prog 153 = some 1 := by kernel_rfl
theorem bsz153 : bsz Try.prog 153 = some 4 := by kernel_rfl
theorem zro153 : zro Try.prog 153 = some (.int .u32 0) := by kernel_rfl
theorem agg153 : aggT Try.prog 153 = some false := by kernel_rfl
theorem tk156 : tk Try.prog 156 = .struct [(17, 0), (17, 1), (17, 2), (9, 3)] := by kernel_rfl
theorem csz156 : csz Try.prog 156 = some 4 := by kernel_rfl
theorem bsz156 : bsz Try.prog 156 = some 40 := by kernel_rfl
theorem agg156 : aggT Try.prog 156 = some true := by kernel_rfl
theorem plc156 : plcF Try.prog 156 = some (plcL [(0, 1), (1, 1), (2, 1), (3, 1)]) := by
  have h : plc Try.prog 156 = some [(0, 1), (1, 1), (2, 1), (3, 1)] := by kernel_rfl
  simp only [plcF, tk156, h, Option.map_some]; rfl
theorem tk157 : tk Try.prog 157 = .struct [(17, 0), (17, 1), (17, 2), (9, 3)] := by kernel_rfl
theorem csz157 : csz Try.prog 157 = some 4 := by kernel_rfl
theorem bsz157 : bsz Try.prog 157 = some 40 := by kernel_rfl
theorem agg157 : aggT Try.prog 157 = some true := by kernel_rfl
theorem plc157 : plcF Try.prog 157 = some (plcL [(0, 1), (1, 1), (2, 1), (3, 1)]) := by
  have h : plc Try.prog 157 = some [(0, 1), (1, 1), (2, 1), (3, 1)] := by kernel_rfl
  simp only [plcF, tk157, h, Option.map_some]; rfl
theorem tk158 : tk Try.prog 158 = .arr 0 16 := by kernel_rfl
theorem csz158 : csz Try.prog 158 = some 0 := by kernel_rfl
theorem bsz158 : bsz Try.prog 158 = some 0 := by kernel_rfl
theorem zro158 : zro Try.prog 158 = some (.agg []) := by kernel_rfl
theorem agg158 : aggT Try.prog 158 = some true := by kernel_rfl
theorem plc158 : plcF Try.prog 158 = some (plcM 1) := by
  simp only [plcF, tk158, csz16, Option.map_some]; rfl
theorem tk159 : tk Try.prog 159 = .struct [(158, 0)] := by kernel_rfl
theorem csz159 : csz Try.prog 159 = some 0 := by kernel_rfl
theorem bsz159 : bsz Try.prog 159 = some 0 := by kernel_rfl
theorem zro159 : zro Try.prog 159 = some (.agg []) := by kernel_rfl
theorem agg159 : aggT Try.prog 159 = some true := by kernel_rfl
theorem plc159 : plcF Try.prog 159 = some (plcL [(0, 0)]) := by
  have h : plc Try.prog 159 = some [(0, 0)] := by kernel_rfl
  simp only [plcF, tk159, h, Option.map_some]; rfl
theorem tk160 : tk Try.prog 160 = .struct [(158, 0)] := by kernel_rfl
theorem csz160 : csz Try.prog 160 = some 0 := by kernel_rfl
theorem bsz160 : bsz Try.prog 160 = some 0 := by kernel_rfl
theorem zro160 : zro Try.prog 160 = some (.agg []) := by kernel_rfl
theorem agg160 : aggT Try.prog 160 = some true := by kernel_rfl
theorem plc160 : plcF Try.prog 160 = some (plcL [(0, 0)]) := by
  have h : plc Try.prog 160 = some [(0, 0)] := by kernel_rfl
  simp only [plcF, tk160, h, Option.map_some]; rfl
theorem tk162 : tk Try.prog 162 = .int .u8 := by kernel_rfl
theorem csz162 : csz Try.prog 162 = some 1 := by kernel_rfl
theorem bsz162 : bsz Try.prog 162 = some 1 := by kernel_rfl
theorem zro162 : zro Try.prog 162 = some (.int .u8 0) := by kernel_rfl
theorem agg162 : aggT Try.prog 162 = some false := by kernel_rfl
theorem tk163 : tk Try.prog 163 = .int .u8 := by kernel_rfl
theorem csz163 : csz Try.prog 163 = some 1 := by kernel_rfl
theorem bsz163 : bsz Try.prog 163 = some 1 := by kernel_rfl
theorem zro163 : zro Try.prog 163 = some (.int .u8 0) := by kernel_rfl
theorem agg163 : aggT Try.prog 163 = some false := by kernel_rfl
theorem tk165 : tk Try.prog 165 = .int .i32 := by kernel_rfl
theorem csz165 : csz Try.prog 165 = some 1 := by kernel_rfl
theorem bsz165 : bsz Try.prog 165 = some 4 := by kernel_rfl
theorem zro165 : zro Try.prog 165 = some (.int .i32 0) := by kernel_rfl
theorem agg165 : aggT Try.prog 165 = some false := by kernel_rfl
theorem tk166 : tk Try.prog 166 = .int .i32 := by kernel_rfl
theorem csz166 : csz Try.prog 166 = some 1 := by kernel_rfl
theorem bsz166 : bsz Try.prog 166 = some 4 := by kernel_rfl
theorem zro166 : zro Try.prog 166 = some (.int .i32 0) := by kernel_rfl
theorem agg166 : aggT Try.prog 166 = some false := by kernel_rfl
theorem tk167 : tk Try.prog 167 = .struct [(12, 0), (12, 1), (153, 2), (162, 3), (5, 4), (5, 5), (163, 6), (164, 7), (139, 8), (165, 9), (166, 10)] := by kernel_rfl
theorem csz167 : csz Try.prog 167 = some 11 := by kernel_rfl
theorem bsz167 : bsz Try.prog 167 = some 48 := by kernel_rfl
theorem agg167 : aggT Try.prog 167 = some true := by kernel_rfl
theorem tk168 : tk Try.prog 168 = .struct [(12, 0), (12, 1), (153, 2), (162, 3), (5, 4), (5, 5), (163, 6), (164, 7), (139, 8), (165, 9), (166, 10)] := by kernel_rfl
theorem csz168 : csz Try.prog 168 = some 11 := by kernel_rfl
theorem bsz168 : bsz Try.prog 168 = some 48 := by kernel_rfl
theorem agg168 : aggT Try.prog 168 = some true := by kernel_rfl
attribute [go_sem] tk2 csz2 bsz2 zro2 agg2 tk3 csz3 bsz3 zro3 agg3 tk4 csz4 bsz4 zro4 agg4 tk5 csz5 bsz5 zro5 agg5 tk6 csz6 bsz6 zro6 agg6 tk7 csz7 bsz7 zro7 agg7 plc7 eqt7 tk8 csz8 bsz8 zro8 agg8 plc8 eqt8 tk9 csz9 bsz9 zro9 agg9 tk10 csz10 bsz10 zro10 agg10 tk11 csz11 bsz11 zro11 agg11 tk12 csz12 bsz12 zro12 agg12 tk13 csz13 bsz13 zro13 agg13 plc13 tk14 csz14 bsz14 zro14 agg14 plc14 tk15 csz15 bsz15 agg15 tk16 csz16 bsz16 agg16 tk17 csz17 bsz17 agg17 tk18 csz18 bsz18 agg18 plc18 tk19 csz19 bsz19 agg19 plc19 tk21 csz21 bsz21 zro21 agg21 tk22 csz22 bsz22 zro22 agg22 tk23 csz23 bsz23 zro23 agg23 plc23 tk24 csz24 bsz24 zro24 agg24 plc24 tk28 csz28 bsz28 zro28 agg28 tk29 csz29 bsz29 zro29 agg29 plc29 tk30 csz30 bsz30 zro30 agg30 plc30 tk34 csz34 bsz34 zro34 agg34 tk36 csz36 bsz36 zro36 agg36 plc36 eqt36 tk37 csz37 bsz37 zro37 agg37 plc37 eqt37 tk48 csz48 bsz48 zro48 agg48 tk54 csz54 bsz54 zro54 agg54 tk64 csz64 bsz64 zro64 agg64 tk73 csz73 bsz73 agg73 tk77 csz77 bsz77 zro77 agg77 plc77 eqt77 tk78 csz78 bsz78 zro78 agg78 plc78 eqt78 tk85 csz85 bsz85 agg85 tk86 csz86 bsz86 zro86 agg86 plc86 eqt86 tk87 csz87 bsz87 zro87 agg87 plc87 eqt87 tk91 csz91 bsz91 zro91 agg91 plc91 tk95 csz95 bsz95 agg95 tk100 csz100 bsz100 zro100 agg100 tk103 csz103 bsz103 zro103 agg103 plc103 eqt103 tk104 csz104 bsz104 zro104 agg104 plc104 eqt104 tk111 csz111 bsz111 agg111 tk112 csz112 bsz112 agg112 plc112 tk113 csz113 bsz113 agg113 plc113 tk122 csz122 bsz122 zro122 agg122 plc122 eqt122 tk123 csz123 bsz123 agg123 tk127 csz127 bsz127 zro127 agg127 tk133 csz133 bsz133 zro133 agg133 tk134 csz134 bsz134 zro134 agg134 plc134 tk135 csz135 bsz135 zro135 agg135 plc135 tk139 csz139 bsz139 agg139 tk140 csz140 bsz140 zro140 agg140 tk141 csz141 bsz141 zro141 agg141 plc141 eqt141 tk142 csz142 bsz142 zro142 agg142 plc142 eqt142 tk153 csz153 bsz153 zro153 agg153 tk156 csz156 bsz156 agg156 plc156 tk157 csz157 bsz157 agg157 plc157 tk158 csz158 bsz158 zro158 agg158 plc158 tk159 csz159 bsz159 zro159 agg159 plc159 tk160 csz160 bsz160 zro160 agg160 plc160 tk162 csz162 bsz162 zro162 agg162 tk163 csz163 bsz163 zro163 agg163 tk165 csz165 bsz165 zro165 agg165 tk166 csz166 bsz166 zro166 agg166 tk167 csz167 bsz167 agg167 tk168 csz168 bsz168 agg168
end Go.Ab
