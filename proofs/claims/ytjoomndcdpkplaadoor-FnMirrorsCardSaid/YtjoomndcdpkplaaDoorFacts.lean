/- What the types of the program are; each fact is checked. Conditions: none. -/
import Derived.Test.YtjoomndcdpkplaaDoorAb2
import Derived.Test.YtjoomndcdpkplaaDoorProg
namespace Go.Ab
open Go.RowKit Go.Proofs
theorem mo : Tryd.prog.follows .mixedOrders = true := by kernel_rfl
theorem tk2 : tk Tryd.prog 2 = .int .i64 := by kernel_rfl
theorem csz2 : csz Tryd.prog 2 = some 1 := by kernel_rfl
theorem bsz2 : bsz Tryd.prog 2 = some 8 := by kernel_rfl
theorem zro2 : zro Tryd.prog 2 = some (.int .i64 0) := by kernel_rfl
theorem agg2 : aggT Tryd.prog 2 = some false := by kernel_rfl
theorem tk3 : tk Tryd.prog 3 = .int .i64 := by kernel_rfl
theorem csz3 : csz Tryd.prog 3 = some 1 := by kernel_rfl
theorem bsz3 : bsz Tryd.prog 3 = some 8 := by kernel_rfl
theorem zro3 : zro Tryd.prog 3 = some (.int .i64 0) := by kernel_rfl
theorem agg3 : aggT Tryd.prog 3 = some false := by kernel_rfl
theorem tk4 : tk Tryd.prog 4 = .bool := by kernel_rfl
theorem csz4 : csz Tryd.prog 4 = some 1 := by kernel_rfl
theorem bsz4 : bsz Tryd.prog 4 = some 1 := by kernel_rfl
theorem zro4 : zro Tryd.prog 4 = some (.bool false) := by kernel_rfl
theorem agg4 : aggT Tryd.prog 4 = some false := by kernel_rfl
theorem tk5 : tk Tryd.prog 5 = .int .u8 := by kernel_rfl
theorem csz5 : csz Tryd.prog 5 = some 1 := by kernel_rfl
theorem bsz5 : bsz Tryd.prog 5 = some 1 := by kernel_rfl
theorem zro5 : zro Tryd.prog 5 = some (.int .u8 0) := by kernel_rfl
theorem agg5 : aggT Tryd.prog 5 = some false := by kernel_rfl
theorem tk6 : tk Tryd.prog 6 = .int .u8 := by kernel_rfl
theorem csz6 : csz Tryd.prog 6 = some 1 := by kernel_rfl
theorem bsz6 : bsz Tryd.prog 6 = some 1 := by kernel_rfl
theorem zro6 : zro Tryd.prog 6 = some (.int .u8 0) := by kernel_rfl
theorem agg6 : aggT Tryd.prog 6 = some false := by kernel_rfl
theorem tk7 : tk Tryd.prog 7 = .struct [(2, 0), (3, 1), (4, 2), (6, 3)] := by kernel_rfl
theorem csz7 : csz Tryd.prog 7 = some 4 := by kernel_rfl
theorem bsz7 : bsz Tryd.prog 7 = some 24 := by kernel_rfl
theorem zro7 : zro Tryd.prog 7 = some (.agg [.int .i64 0, .int .i64 0, .bool false, .int .u8 0]) := by kernel_rfl
theorem agg7 : aggT Tryd.prog 7 = some true := by kernel_rfl
theorem plc7 : plcF Tryd.prog 7 = some (plcL [(0, 1), (1, 1), (2, 1), (3, 1)]) := by
  have h : plc Tryd.prog 7 = some [(0, 1), (1, 1), (2, 1), (3, 1)] := by kernel_rfl
  simp only [plcF, tk7, h, Option.map_some]; rfl
theorem eqt7 : eqTypes Tryd.prog 7 = true := by kernel_rfl
theorem tk8 : tk Tryd.prog 8 = .struct [(2, 0), (3, 1), (4, 2), (6, 3)] := by kernel_rfl
theorem csz8 : csz Tryd.prog 8 = some 4 := by kernel_rfl
theorem bsz8 : bsz Tryd.prog 8 = some 24 := by kernel_rfl
theorem zro8 : zro Tryd.prog 8 = some (.agg [.int .i64 0, .int .i64 0, .bool false, .int .u8 0]) := by kernel_rfl
theorem agg8 : aggT Tryd.prog 8 = some true := by kernel_rfl
theorem plc8 : plcF Tryd.prog 8 = some (plcL [(0, 1), (1, 1), (2, 1), (3, 1)]) := by
  have h : plc Tryd.prog 8 = some [(0, 1), (1, 1), (2, 1), (3, 1)] := by kernel_rfl
  simp only [plcF, tk8, h, Option.map_some]; rfl
theorem eqt8 : eqTypes Tryd.prog 8 = true := by kernel_rfl
theorem tk9 : tk Tryd.prog 9 = .str := by kernel_rfl
theorem csz9 : csz Tryd.prog 9 = some 1 := by kernel_rfl
theorem bsz9 : bsz Tryd.prog 9 = some 16 := by kernel_rfl
theorem zro9 : zro Tryd.prog 9 = some (.str []) := by kernel_rfl
theorem agg9 : aggT Tryd.prog 9 = some false := by kernel_rfl
theorem tk10 : tk Tryd.prog 10 = .str := by kernel_rfl
theorem csz10 : csz Tryd.prog 10 = some 1 := by kernel_rfl
theorem bsz10 : bsz Tryd.prog 10 = some 16 := by kernel_rfl
theorem zro10 : zro Tryd.prog 10 = some (.str []) := by kernel_rfl
theorem agg10 : aggT Tryd.prog 10 = some false := by kernel_rfl
theorem tk11 : tk Tryd.prog 11 = .str := by kernel_rfl
theorem csz11 : csz Tryd.prog 11 = some 1 := by kernel_rfl
theorem bsz11 : bsz Tryd.prog 11 = some 16 := by kernel_rfl
theorem zro11 : zro Tryd.prog 11 = some (.str []) := by kernel_rfl
theorem agg11 : aggT Tryd.prog 11 = some false := by kernel_rfl
theorem tk12 : tk Tryd.prog 12 = .int .u64 := by kernel_rfl
theorem csz12 : csz Tryd.prog 12 = some 1 := by kernel_rfl
theorem bsz12 : bsz Tryd.prog 12 = some 8 := by kernel_rfl
theorem zro12 : zro Tryd.prog 12 = some (.int .u64 0) := by kernel_rfl
theorem agg12 : aggT Tryd.prog 12 = some false := by kernel_rfl
theorem tk13 : tk Tryd.prog 13 = .struct [(9, 0), (12, 1)] := by kernel_rfl
theorem csz13 : csz Tryd.prog 13 = some 2 := by kernel_rfl
theorem bsz13 : bsz Tryd.prog 13 = some 24 := by kernel_rfl
theorem zro13 : zro Tryd.prog 13 = some (.agg [.str [], .int .u64 0]) := by kernel_rfl
theorem agg13 : aggT Tryd.prog 13 = some true := by kernel_rfl
theorem plc13 : plcF Tryd.prog 13 = some (plcL [(0, 1), (1, 1)]) := by
  have h : plc Tryd.prog 13 = some [(0, 1), (1, 1)] := by kernel_rfl
  simp only [plcF, tk13, h, Option.map_some]; rfl
theorem tk14 : tk Tryd.prog 14 = .struct [(9, 0), (12, 1)] := by kernel_rfl
theorem csz14 : csz Tryd.prog 14 = some 2 := by kernel_rfl
theorem bsz14 : bsz Tryd.prog 14 = some 24 := by kernel_rfl
theorem zro14 : zro Tryd.prog 14 = some (.agg [.str [], .int .u64 0]) := by kernel_rfl
theorem agg14 : aggT Tryd.prog 14 = some true := by kernel_rfl
theorem plc14 : plcF Tryd.prog 14 = some (plcL [(0, 1), (1, 1)]) := by
  have h : plc Tryd.prog 14 = some [(0, 1), (1, 1)] := by kernel_rfl
  simp only [plcF, tk14, h, Option.map_some]; rfl
theorem tk15 : tk Tryd.prog 15 = .ptr 112 := by kernel_rfl
theorem csz15 : csz Tryd.prog 15 = some 1 := by kernel_rfl
theorem bsz15 : bsz Tryd.prog 15 = some 8 := by kernel_rfl
theorem agg15 : aggT Tryd.prog 15 = some false := by kernel_rfl
theorem tk16 : tk Tryd.prog 16 = .ptr 115 := by kernel_rfl
theorem csz16 : csz Tryd.prog 16 = some 1 := by kernel_rfl
theorem bsz16 : bsz Tryd.prog 16 = some 8 := by kernel_rfl
theorem agg16 : aggT Tryd.prog 16 = some false := by kernel_rfl
theorem tk17 : tk Tryd.prog 17 = .ptr 122 := by kernel_rfl
theorem csz17 : csz Tryd.prog 17 = some 1 := by kernel_rfl
theorem bsz17 : bsz Tryd.prog 17 = some 8 := by kernel_rfl
theorem agg17 : aggT Tryd.prog 17 = some false := by kernel_rfl
theorem tk18 : tk Tryd.prog 18 = .struct [(17, 0)] := by kernel_rfl
theorem csz18 : csz Tryd.prog 18 = some 1 := by kernel_rfl
theorem bsz18 : bsz Tryd.prog 18 = some 8 := by kernel_rfl
theorem agg18 : aggT Tryd.prog 18 = some true := by kernel_rfl
theorem plc18 : plcF Tryd.prog 18 = some (plcL [(0, 1)]) := by
  have h : plc Tryd.prog 18 = some [(0, 1)] := by kernel_rfl
  simp only [plcF, tk18, h, Option.map_some]; rfl
theorem tk19 : tk Tryd.prog 19 = .struct [(17, 0)] := by kernel_rfl
theorem csz19 : csz Tryd.prog 19 = some 1 := by kernel_rfl
theorem bsz19 : bsz Tryd.prog 19 = some 8 := by kernel_rfl
theorem agg19 : aggT Tryd.prog 19 = some true := by kernel_rfl
theorem plc19 : plcF Tryd.prog 19 = some (plcL [(0, 1)]) := by
  have h : plc Tryd.prog 19 = some [(0, 1)] := by kernel_rfl
  simp only [plcF, tk19, h, Option.map_some]; rfl
theorem tk21 : tk Tryd.prog 21 = .int .i32 := by kernel_rfl
theorem csz21 : csz Tryd.prog 21 = some 1 := by kernel_rfl
theorem bsz21 : bsz Tryd.prog 21 = some 4 := by kernel_rfl
theorem zro21 : zro Tryd.prog 21 = some (.int .i32 0) := by kernel_rfl
theorem agg21 : aggT Tryd.prog 21 = some false := by kernel_rfl
theorem tk22 : tk Tryd.prog 22 = .slice 5 := by kernel_rfl
theorem csz22 : csz Tryd.prog 22 = some 1 := by kernel_rfl
theorem bsz22 : bsz Tryd.prog 22 = some 24 := by kernel_rfl
theorem zro22 : zro Tryd.prog 22 = some (.nil) := by kernel_rfl
theorem agg22 : aggT Tryd.prog 22 = some false := by kernel_rfl
theorem tk24 : tk Tryd.prog 24 = .struct [(9, 0), (2, 1), (9, 2)] := by kernel_rfl
theorem csz24 : csz Tryd.prog 24 = some 3 := by kernel_rfl
theorem bsz24 : bsz Tryd.prog 24 = some 40 := by kernel_rfl
theorem zro24 : zro Tryd.prog 24 = some (.agg [.str [], .int .i64 0, .str []]) := by kernel_rfl
theorem agg24 : aggT Tryd.prog 24 = some true := by kernel_rfl
theorem plc24 : plcF Tryd.prog 24 = some (plcL [(0, 1), (1, 1), (2, 1)]) := by
  have h : plc Tryd.prog 24 = some [(0, 1), (1, 1), (2, 1)] := by kernel_rfl
  simp only [plcF, tk24, h, Option.map_some]; rfl
theorem eqt24 : eqTypes Tryd.prog 24 = true := by kernel_rfl
theorem tk25 : tk Tryd.prog 25 = .struct [(9, 0), (2, 1), (9, 2)] := by kernel_rfl
theorem csz25 : csz Tryd.prog 25 = some 3 := by kernel_rfl
theorem bsz25 : bsz Tryd.prog 25 = some 40 := by kernel_rfl
theorem zro25 : zro Tryd.prog 25 = some (.agg [.str [], .int .i64 0, .str []]) := by kernel_rfl
theorem agg25 : aggT Tryd.prog 25 = some true := by kernel_rfl
theorem plc25 : plcF Tryd.prog 25 = some (plcL [(0, 1), (1, 1), (2, 1)]) := by
  have h : plc Tryd.prog 25 = some [(0, 1), (1, 1), (2, 1)] := by kernel_rfl
  simp only [plcF, tk25, h, Option.map_some]; rfl
theorem eqt25 : eqTypes Tryd.prog 25 = true := by kernel_rfl
theorem tk27 : tk Tryd.prog 27 = .struct [(25, 0), (2, 3), (2, 4)] := by kernel_rfl
theorem csz27 : csz Tryd.prog 27 = some 5 := by kernel_rfl
theorem bsz27 : bsz Tryd.prog 27 = some 56 := by kernel_rfl
theorem zro27 : zro Tryd.prog 27 = some (.agg [.str [], .int .i64 0, .str [], .int .i64 0, .int .i64 0]) := by kernel_rfl
theorem agg27 : aggT Tryd.prog 27 = some true := by kernel_rfl
theorem plc27 : plcF Tryd.prog 27 = some (plcL [(0, 3), (3, 1), (4, 1)]) := by
  have h : plc Tryd.prog 27 = some [(0, 3), (3, 1), (4, 1)] := by kernel_rfl
  simp only [plcF, tk27, h, Option.map_some]; rfl
theorem tk28 : tk Tryd.prog 28 = .struct [(25, 0), (2, 3), (2, 4)] := by kernel_rfl
theorem csz28 : csz Tryd.prog 28 = some 5 := by kernel_rfl
theorem bsz28 : bsz Tryd.prog 28 = some 56 := by kernel_rfl
theorem zro28 : zro Tryd.prog 28 = some (.agg [.str [], .int .i64 0, .str [], .int .i64 0, .int .i64 0]) := by kernel_rfl
theorem agg28 : aggT Tryd.prog 28 = some true := by kernel_rfl
theorem plc28 : plcF Tryd.prog 28 = some (plcL [(0, 3), (3, 1), (4, 1)]) := by
  have h : plc Tryd.prog 28 = some [(0, 3), (3, 1), (4, 1)] := by kernel_rfl
  simp only [plcF, tk28, h, Option.map_some]; rfl
theorem tk47 : tk Tryd.prog 47 = .ptr 67 := by kernel_rfl
theorem csz47 : csz Tryd.prog 47 = some 1 := by kernel_rfl
theorem bsz47 : bsz Tryd.prog 47 = some 8 := by kernel_rfl
theorem agg47 : aggT Tryd.prog 47 = some false := by kernel_rfl
theorem tk62 : tk Tryd.prog 62 = .slice 9 := by kernel_rfl
theorem csz62 : csz Tryd.prog 62 = some 1 := by kernel_rfl
theorem bsz62 : bsz Tryd.prog 62 = some 24 := by kernel_rfl
theorem zro62 : zro Tryd.prog 62 = some (.nil) := by kernel_rfl
theorem agg62 : aggT Tryd.prog 62 = some false := by kernel_rfl
theorem tk65 : tk Tryd.prog 65 = .int .u64 := by kernel_rfl
theorem csz65 : csz Tryd.prog 65 = some 1 := by kernel_rfl
theorem bsz65 : bsz Tryd.prog 65 = some 8 := by kernel_rfl
theorem zro65 : zro Tryd.prog 65 = some (.int .u64 0) := by kernel_rfl
theorem agg65 : aggT Tryd.prog 65 = some false := by kernel_rfl
theorem tk66 : tk Tryd.prog 66 = .struct [(22, 0), (3, 1), (65, 2)] := by kernel_rfl
theorem csz66 : csz Tryd.prog 66 = some 3 := by kernel_rfl
theorem bsz66 : bsz Tryd.prog 66 = some 40 := by kernel_rfl
theorem zro66 : zro Tryd.prog 66 = some (.agg [.nil, .int .i64 0, .int .u64 0]) := by kernel_rfl
theorem agg66 : aggT Tryd.prog 66 = some true := by kernel_rfl
theorem plc66 : plcF Tryd.prog 66 = some (plcL [(0, 1), (1, 1), (2, 1)]) := by
  have h : plc Tryd.prog 66 = some [(0, 1), (1, 1), (2, 1)] := by kernel_rfl
  simp only [plcF, tk66, h, Option.map_some]; rfl
theorem tk67 : tk Tryd.prog 67 = .struct [(22, 0), (3, 1), (65, 2)] := by kernel_rfl
theorem csz67 : csz Tryd.prog 67 = some 3 := by kernel_rfl
theorem bsz67 : bsz Tryd.prog 67 = some 40 := by kernel_rfl
theorem zro67 : zro Tryd.prog 67 = some (.agg [.nil, .int .i64 0, .int .u64 0]) := by kernel_rfl
theorem agg67 : aggT Tryd.prog 67 = some true := by kernel_rfl
theorem plc67 : plcF Tryd.prog 67 = some (plcL [(0, 1), (1, 1), (2, 1)]) := by
  have h : plc Tryd.prog 67 = some [(0, 1), (1, 1), (2, 1)] := by kernel_rfl
  simp only [plcF, tk67, h, Option.map_some]; rfl
theorem tk70 : tk Tryd.prog 70 = .arr 256 4 := by kernel_rfl
theorem csz70 : csz Tryd.prog 70 = some 256 := by kernel_rfl
theorem bsz70 : bsz Tryd.prog 70 = some 256 := by kernel_rfl
theorem zro70 : zro Tryd.prog 70 = some (.agg [.bool false, .bool false, .bool false, .bool false, .bool false, .bool false, .bool false, .bool false, .bool false, .bool false, .bool false, .bool false, .bool false, .bool false, .bool false, .bool false, .bool false, .bool false, .bool false, .bool false, .bool false, .bool false, .bool false, .bool false, .bool false, .bool false, .bool false, .bool false, .bool false, .bool false, .bool false, .bool false, .bool false, .bool false, .bool false, .bool false, .bool false, .bool false, .bool false, .bool false, .bool false, .bool false, .bool false, .bool false, .bool false, .bool false, .bool false, .bool false, .bool false, .bool false, .bool false, .bool false, .bool false, .bool false, .bool false, .bool false, .bool false, .bool false, .bool false, .bool false, .bool false, .bool false, .bool false, .bool false, .bool false, .bool false, .bool false, .bool false, .bool false, .bool false, .bool false, .bool false, .bool false, .bool false, .bool false, .bool false, .bool false, .bool false, .bool false, .bool false, .bool false, .bool false, .bool false, .bool false, .bool false, .bool false, .bool false, .bool false, .bool false, .bool false, .bool false, .bool false, .bool false, .bool false, .bool false, .bool false, .bool false, .bool false, .bool false, .bool false, .bool false, .bool false, .bool false, .bool false, .bool false, .bool false, .bool false, .bool false, .bool false, .bool false, .bool false, .bool false, .bool false, .bool false, .bool false, .bool false, .bool false, .bool false, .bool false, .bool false, .bool false, .bool false, .bool false, .bool false, .bool false, .bool false, .bool false, .bool false, .bool false, .bool false, .bool false, .bool false, .bool false, .bool false, .bool false, .bool false, .bool false, .bool false, .bool false, .bool false, .bool false, .bool false, .bool false, .bool false, .bool false, .bool false, .bool false, .bool false, .bool false, .bool false, .bool false, .bool false, .bool false, .bool false, .bool false, .bool false, .bool false, .bool false, .bool false, .bool false, .bool false, .bool false, .bool false, .bool false, .bool false, .bool false, .bool false, .bool false, .bool false, .bool false, .bool false, .bool false, .bool false, .bool false, .bool false, .bool false, .bool false, .bool false, .bool false, .bool false, .bool false, .bool false, .bool false, .bool false, .bool false, .bool false, .bool false, .bool false, .bool false, .bool false, .bool false, .bool false, .bool false, .bool false, .bool false, .bool false, .bool false, .bool false, .bool false, .bool false, .bool false, .bool false, .bool false, .bool false, .bool false, .bool false, .bool false, .bool false, .bool false, .bool false, .bool false, .bool false, .bool false, .bool false, .bool false, .bool false, .bool false, .bool false, .bool false, .bool false, .bool false, .bool false, .bool false, .bool false, .bool false, .bool false, .bool false, .bool false, .bool false, .bool false, .bool false, .bool false, .bool false, .bool false, .bool false, .bool false, .bool false, .bool false, .bool false, .bool false, .bool false, .bool false, .bool false, .bool false, .bool false, .bool false, .bool false, .bool false, .bool false, .bool false, .bool false, .bool false, .bool false, .bool false, .bool false, .bool false]) := by kernel_rfl
theorem agg70 : aggT Tryd.prog 70 = some true := by kernel_rfl
theorem plc70 : plcF Tryd.prog 70 = some (plcM 1) := by
  simp only [plcF, tk70, csz4, Option.map_some]; rfl
theorem tk71 : tk Tryd.prog 71 = .arr 256 4 := by kernel_rfl
theorem csz71 : csz Tryd.prog 71 = some 256 := by kernel_rfl
theorem bsz71 : bsz Tryd.prog 71 = some 256 := by kernel_rfl
theorem zro71 : zro Tryd.prog 71 = some (.agg [.bool false, .bool false, .bool false, .bool false, .bool false, .bool false, .bool false, .bool false, .bool false, .bool false, .bool false, .bool false, .bool false, .bool false, .bool false, .bool false, .bool false, .bool false, .bool false, .bool false, .bool false, .bool false, .bool false, .bool false, .bool false, .bool false, .bool false, .bool false, .bool false, .bool false, .bool false, .bool false, .bool false, .bool false, .bool false, .bool false, .bool false, .bool false, .bool false, .bool false, .bool false, .bool false, .bool false, .bool false, .bool false, .bool false, .bool false, .bool false, .bool false, .bool false, .bool false, .bool false, .bool false, .bool false, .bool false, .bool false, .bool false, .bool false, .bool false, .bool false, .bool false, .bool false, .bool false, .bool false, .bool false, .bool false, .bool false, .bool false, .bool false, .bool false, .bool false, .bool false, .bool false, .bool false, .bool false, .bool false, .bool false, .bool false, .bool false, .bool false, .bool false, .bool false, .bool false, .bool false, .bool false, .bool false, .bool false, .bool false, .bool false, .bool false, .bool false, .bool false, .bool false, .bool false, .bool false, .bool false, .bool false, .bool false, .bool false, .bool false, .bool false, .bool false, .bool false, .bool false, .bool false, .bool false, .bool false, .bool false, .bool false, .bool false, .bool false, .bool false, .bool false, .bool false, .bool false, .bool false, .bool false, .bool false, .bool false, .bool false, .bool false, .bool false, .bool false, .bool false, .bool false, .bool false, .bool false, .bool false, .bool false, .bool false, .bool false, .bool false, .bool false, .bool false, .bool false, .bool false, .bool false, .bool false, .bool false, .bool false, .bool false, .bool false, .bool false, .bool false, .bool false, .bool false, .bool false, .bool false, .bool false, .bool false, .bool false, .bool false, .bool false, .bool false, .bool false, .bool false, .bool false, .bool false, .bool false, .bool false, .bool false, .bool false, .bool false, .bool false, .bool false, .bool false, .bool false, .bool false, .bool false, .bool false, .bool false, .bool false, .bool false, .bool false, .bool false, .bool false, .bool false, .bool false, .bool false, .bool false, .bool false, .bool false, .bool false, .bool false, .bool false, .bool false, .bool false, .bool false, .bool false, .bool false, .bool false, .bool false, .bool false, .bool false, .bool false, .bool false, .bool false, .bool false, .bool false, .bool false, .bool false, .bool false, .bool false, .bool false, .bool false, .bool false, .bool false, .bool false, .bool false, .bool false, .bool false, .bool false, .bool false, .bool false, .bool false, .bool false, .bool false, .bool false, .bool false, .bool false, .bool false, .bool false, .bool false, .bool false, .bool false, .bool false, .bool false, .bool false, .bool false, .bool false, .bool false, .bool false, .bool false, .bool false, .bool false, .bool false, .bool false, .bool false, .bool false, .bool false, .bool false, .bool false, .bool false, .bool false, .bool false, .bool false, .bool false, .bool false, .bool false, .bool false, .bool false, .bool false, .bool false, .bool false, .bool false, .bool false]) := by kernel_rfl
theorem agg71 : aggT Tryd.prog 71 = some true := by kernel_rfl
theorem plc71 : plcF Tryd.prog 71 = some (plcM 1) := by
  simp only [plcF, tk71, csz4, Option.map_some]; rfl
theorem tk75 : tk Tryd.prog 75 = .ptr 71 := by kernel_rfl
theorem csz75 : csz Tryd.prog 75 = some 1 := by kernel_rfl
theorem bsz75 : bsz Tryd.prog 75 = some 8 := by kernel_rfl
theorem agg75 : aggT Tryd.prog 75 = some false := by kernel_rfl
theorem tk76 : tk Tryd.prog 76 = .int .u64 := by kernel_rfl
theorem csz76 : csz Tryd.prog 76 = some 1 := by kernel_rfl
theorem bsz76 : bsz Tryd.prog 76 = some 8 := by kernel_rfl
theorem zro76 : zro Tryd.prog 76 = some (.int .u64 0) := by kernel_rfl
theorem agg76 : aggT Tryd.prog 76 = some false := by kernel_rfl
theorem tk79 : tk Tryd.prog 79 = .ptr 81 := by kernel_rfl
theorem csz79 : csz Tryd.prog 79 = some 1 := by kernel_rfl
theorem bsz79 : bsz Tryd.prog 79 = some 8 := by kernel_rfl
theorem agg79 : aggT Tryd.prog 79 = some false := by kernel_rfl
theorem tk80 : tk Tryd.prog 80 = .struct [(79, 0), (22, 1)] := by kernel_rfl
theorem csz80 : csz Tryd.prog 80 = some 2 := by kernel_rfl
theorem bsz80 : bsz Tryd.prog 80 = some 32 := by kernel_rfl
theorem agg80 : aggT Tryd.prog 80 = some true := by kernel_rfl
theorem plc80 : plcF Tryd.prog 80 = some (plcL [(0, 1), (1, 1)]) := by
  have h : plc Tryd.prog 80 = some [(0, 1), (1, 1)] := by kernel_rfl
  simp only [plcF, tk80, h, Option.map_some]; rfl
theorem tk81 : tk Tryd.prog 81 = .struct [(79, 0), (22, 1)] := by kernel_rfl
theorem csz81 : csz Tryd.prog 81 = some 2 := by kernel_rfl
theorem bsz81 : bsz Tryd.prog 81 = some 32 := by kernel_rfl
theorem agg81 : aggT Tryd.prog 81 = some true := by kernel_rfl
theorem plc81 : plcF Tryd.prog 81 = some (plcL [(0, 1), (1, 1)]) := by
  have h : plc Tryd.prog 81 = some [(0, 1), (1, 1)] := by kernel_rfl
  simp only [plcF, tk81, h, Option.map_some]; rfl
theorem tk93 : tk Tryd.prog 93 = .int .u32 := by kernel_rfl
theorem csz93 : csz Tryd.prog 93 = some 1 := by kernel_rfl
theorem bsz93 : bsz Tryd.prog 93 = some 4 := by kernel_rfl
theorem zro93 : zro Tryd.prog 93 = some (.int .u32 0) := by kernel_rfl
theorem agg93 : aggT Tryd.prog 93 = some false := by kernel_rfl
theorem tk98 : tk Tryd.prog 98 = .ptr 5 := by kernel_rfl
theorem csz98 : csz Tryd.prog 98 = some 1 := by kernel_rfl
theorem bsz98 : bsz Tryd.prog 98 = some 8 := by kernel_rfl
theorem agg98 : aggT Tryd.prog 98 = some false := by kernel_rfl
theorem tk107 : tk Tryd.prog 107 = .arr 256 5 := by kernel_rfl
theorem csz107 : csz Tryd.prog 107 = some 256 := by kernel_rfl
theorem bsz107 : bsz Tryd.prog 107 = some 256 := by kernel_rfl
theorem zro107 : zro Tryd.prog 107 = some (.agg [.int .u8 0, .int .u8 0, .int .u8 0, .int .u8 0, .int .u8 0, .int .u8 0, .int .u8 0, .int .u8 0, .int .u8 0, .int .u8 0, .int .u8 0, .int .u8 0, .int .u8 0, .int .u8 0, .int .u8 0, .int .u8 0, .int .u8 0, .int .u8 0, .int .u8 0, .int .u8 0, .int .u8 0, .int .u8 0, .int .u8 0, .int .u8 0, .int .u8 0, .int .u8 0, .int .u8 0, .int .u8 0, .int .u8 0, .int .u8 0, .int .u8 0, .int .u8 0, .int .u8 0, .int .u8 0, .int .u8 0, .int .u8 0, .int .u8 0, .int .u8 0, .int .u8 0, .int .u8 0, .int .u8 0, .int .u8 0, .int .u8 0, .int .u8 0, .int .u8 0, .int .u8 0, .int .u8 0, .int .u8 0, .int .u8 0, .int .u8 0, .int .u8 0, .int .u8 0, .int .u8 0, .int .u8 0, .int .u8 0, .int .u8 0, .int .u8 0, .int .u8 0, .int .u8 0, .int .u8 0, .int .u8 0, .int .u8 0, .int .u8 0, .int .u8 0, .int .u8 0, .int .u8 0, .int .u8 0, .int .u8 0, .int .u8 0, .int .u8 0, .int .u8 0, .int .u8 0, .int .u8 0, .int .u8 0, .int .u8 0, .int .u8 0, .int .u8 0, .int .u8 0, .int .u8 0, .int .u8 0, .int .u8 0, .int .u8 0, .int .u8 0, .int .u8 0, .int .u8 0, .int .u8 0, .int .u8 0, .int .u8 0, .int .u8 0, .int .u8 0, .int .u8 0, .int .u8 0, .int .u8 0, .int .u8 0, .int .u8 0, .int .u8 0, .int .u8 0, .int .u8 0, .int .u8 0, .int .u8 0, .int .u8 0, .int .u8 0, .int .u8 0, .int .u8 0, .int .u8 0, .int .u8 0, .int .u8 0, .int .u8 0, .int .u8 0, .int .u8 0, .int .u8 0, .int .u8 0, .int .u8 0, .int .u8 0, .int .u8 0, .int .u8 0, .int .u8 0, .int .u8 0, .int .u8 0, .int .u8 0, .int .u8 0, .int .u8 0, .int .u8 0, .int .u8 0, .int .u8 0, .int .u8 0, .int .u8 0, .int .u8 0, .int .u8 0, .int .u8 0, .int .u8 0, .int .u8 0, .int .u8 0, .int .u8 0, .int .u8 0, .int .u8 0, .int .u8 0, .int .u8 0, .int .u8 0, .int .u8 0, .int .u8 0, .int .u8 0, .int .u8 0, .int .u8 0, .int .u8 0, .int .u8 0, .int .u8 0, .int .u8 0, .int .u8 0, .int .u8 0, .int .u8 0, .int .u8 0, .int .u8 0, .int .u8 0, .int .u8 0, .int .u8 0, .int .u8 0, .int .u8 0, .int .u8 0, .int .u8 0, .int .u8 0, .int .u8 0, .int .u8 0, .int .u8 0, .int .u8 0, .int .u8 0, .int .u8 0, .int .u8 0, .int .u8 0, .int .u8 0, .int .u8 0, .int .u8 0, .int .u8 0, .int .u8 0, .int .u8 0, .int .u8 0, .int .u8 0, .int .u8 0, .int .u8 0, .int .u8 0, .int .u8 0, .int .u8 0, .int .u8 0, .int .u8 0, .int .u8 0, .int .u8 0, .int .u8 0, .int .u8 0, .int .u8 0, .int .u8 0, .int .u8 0, .int .u8 0, .int .u8 0, .int .u8 0, .int .u8 0, .int .u8 0, .int .u8 0, .int .u8 0, .int .u8 0, .int .u8 0, .int .u8 0, .int .u8 0, .int .u8 0, .int .u8 0, .int .u8 0, .int .u8 0, .int .u8 0, .int .u8 0, .int .u8 0, .int .u8 0, .int .u8 0, .int .u8 0, .int .u8 0, .int .u8 0, .int .u8 0, .int .u8 0, .int .u8 0, .int .u8 0, .int .u8 0, .int .u8 0, .int .u8 0, .int .u8 0, .int .u8 0, .int .u8 0, .int .u8 0, .int .u8 0, .int .u8 0, .int .u8 0, .int .u8 0, .int .u8 0, .int .u8 0, .int .u8 0, .int .u8 0, .int .u8 0, .int .u8 0, .int .u8 0, .int .u8 0, .int .u8 0, .int .u8 0, .int .u8 0, .int .u8 0, .int .u8 0, .int .u8 0, .int .u8 0, .int .u8 0, .int .u8 0, .int .u8 0, .int .u8 0, .int .u8 0, .int .u8 0, .int .u8 0, .int .u8 0, .int .u8 0, .int .u8 0, .int .u8 0, .int .u8 0]) := by kernel_rfl
theorem agg107 : aggT Tryd.prog 107 = some true := by kernel_rfl
theorem plc107 : plcF Tryd.prog 107 = some (plcM 1) := by
  simp only [plcF, tk107, csz5, Option.map_some]; rfl
theorem tk108 : tk Tryd.prog 108 = .struct [(5, 0), (5, 1)] := by kernel_rfl
theorem csz108 : csz Tryd.prog 108 = some 2 := by kernel_rfl
theorem bsz108 : bsz Tryd.prog 108 = some 2 := by kernel_rfl
theorem zro108 : zro Tryd.prog 108 = some (.agg [.int .u8 0, .int .u8 0]) := by kernel_rfl
theorem agg108 : aggT Tryd.prog 108 = some true := by kernel_rfl
theorem plc108 : plcF Tryd.prog 108 = some (plcL [(0, 1), (1, 1)]) := by
  have h : plc Tryd.prog 108 = some [(0, 1), (1, 1)] := by kernel_rfl
  simp only [plcF, tk108, h, Option.map_some]; rfl
theorem eqt108 : eqTypes Tryd.prog 108 = true := by kernel_rfl
theorem tk109 : tk Tryd.prog 109 = .struct [(5, 0), (5, 1)] := by kernel_rfl
theorem csz109 : csz Tryd.prog 109 = some 2 := by kernel_rfl
theorem bsz109 : bsz Tryd.prog 109 = some 2 := by kernel_rfl
theorem zro109 : zro Tryd.prog 109 = some (.agg [.int .u8 0, .int .u8 0]) := by kernel_rfl
theorem agg109 : aggT Tryd.prog 109 = some true := by kernel_rfl
theorem plc109 : plcF Tryd.prog 109 = some (plcL [(0, 1), (1, 1)]) := by
  have h : plc Tryd.prog 109 = some [(0, 1), (1, 1)] := by kernel_rfl
  simp only [plcF, tk109, h, Option.map_some]; rfl
theorem eqt109 : eqTypes Tryd.prog 109 = true := by kernel_rfl
theorem tk110 : tk Tryd.prog 110 = .arr 16 109 := by kernel_rfl
theorem csz110 : csz Tryd.prog 110 = some 32 := by kernel_rfl
theorem bsz110 : bsz Tryd.prog 110 = some 32 := by kernel_rfl
theorem zro110 : zro Tryd.prog 110 = some (.agg [.int .u8 0, .int .u8 0, .int .u8 0, .int .u8 0, .int .u8 0, .int .u8 0, .int .u8 0, .int .u8 0, .int .u8 0, .int .u8 0, .int .u8 0, .int .u8 0, .int .u8 0, .int .u8 0, .int .u8 0, .int .u8 0, .int .u8 0, .int .u8 0, .int .u8 0, .int .u8 0, .int .u8 0, .int .u8 0, .int .u8 0, .int .u8 0, .int .u8 0, .int .u8 0, .int .u8 0, .int .u8 0, .int .u8 0, .int .u8 0, .int .u8 0, .int .u8 0]) := by kernel_rfl
theorem agg110 : aggT Tryd.prog 110 = some true := by kernel_rfl
theorem plc110 : plcF Tryd.prog 110 = some (plcM 2) := by
  simp only [plcF, tk110, csz109, Option.map_some]; rfl
theorem tk111 : tk Tryd.prog 111 = .struct [(17, 0), (17, 1), (17, 2), (9, 3)] := by kernel_rfl
theorem csz111 : csz Tryd.prog 111 = some 4 := by kernel_rfl
theorem bsz111 : bsz Tryd.prog 111 = some 40 := by kernel_rfl
theorem agg111 : aggT Tryd.prog 111 = some true := by kernel_rfl
theorem plc111 : plcF Tryd.prog 111 = some (plcL [(0, 1), (1, 1), (2, 1), (3, 1)]) := by
  have h : plc Tryd.prog 111 = some [(0, 1), (1, 1), (2, 1), (3, 1)] := by kernel_rfl
  simp only [plcF, tk111, h, Option.map_some]; rfl
theorem tk112 : tk Tryd.prog 112 = .struct [(17, 0), (17, 1), (17, 2), (9, 3)] := by kernel_rfl
theorem csz112 : csz Tryd.prog 112 = some 4 := by kernel_rfl
theorem bsz112 : bsz Tryd.prog 112 = some 40 := by kernel_rfl
theorem agg112 : aggT Tryd.prog 112 = some true := by kernel_rfl
theorem plc112 : plcF Tryd.prog 112 = some (plcL [(0, 1), (1, 1), (2, 1), (3, 1)]) := by
  have h : plc Tryd.prog 112 = some [(0, 1), (1, 1), (2, 1), (3, 1)] := by kernel_rfl
  simp only [plcF, tk112, h, Option.map_some]; rfl
theorem tk113 : tk Tryd.prog 113 = .arr 0 16 := by kernel_rfl
theorem csz113 : csz Tryd.prog 113 = some 0 := by kernel_rfl
theorem bsz113 : bsz Tryd.prog 113 = some 0 := by kernel_rfl
theorem zro113 : zro Tryd.prog 113 = some (.agg []) := by kernel_rfl
theorem agg113 : aggT Tryd.prog 113 = some true := by kernel_rfl
theorem plc113 : plcF Tryd.prog 113 = some (plcM 1) := by
  simp only [plcF, tk113, csz16, Option.map_some]; rfl
theorem tk114 : tk Tryd.prog 114 = .struct [(113, 0)] := by kernel_rfl
theorem csz114 : csz Tryd.prog 114 = some 0 := by kernel_rfl
theorem bsz114 : bsz Tryd.prog 114 = some 0 := by kernel_rfl
theorem zro114 : zro Tryd.prog 114 = some (.agg []) := by kernel_rfl
theorem agg114 : aggT Tryd.prog 114 = some true := by kernel_rfl
theorem plc114 : plcF Tryd.prog 114 = some (plcL [(0, 0)]) := by
  have h : plc Tryd.prog 114 = some [(0, 0)] := by kernel_rfl
  simp only [plcF, tk114, h, Option.map_some]; rfl
theorem tk115 : tk Tryd.prog 115 = .struct [(113, 0)] := by kernel_rfl
theorem csz115 : csz Tryd.prog 115 = some 0 := by kernel_rfl
theorem bsz115 : bsz Tryd.prog 115 = some 0 := by kernel_rfl
theorem zro115 : zro Tryd.prog 115 = some (.agg []) := by kernel_rfl
theorem agg115 : aggT Tryd.prog 115 = some true := by kernel_rfl
theorem plc115 : plcF Tryd.prog 115 = some (plcL [(0, 0)]) := by
  have h : plc Tryd.prog 115 = some [(0, 0)] := by kernel_rfl
  simp only [plcF, tk115, h, Option.map_some]; rfl
theorem tk116 : tk Tryd.prog 116 = .int .u8 := by kernel_rfl
theorem csz116 : csz Tryd.prog 116 = some 1 := by kernel_rfl
theorem bsz116 : bsz Tryd.prog 116 = some 1 := by kernel_rfl
theorem zro116 : zro Tryd.prog 116 = some (.int .u8 0) := by kernel_rfl
theorem agg116 : aggT Tryd.prog 116 = some false := by kernel_rfl
theorem tk117 : tk Tryd.prog 117 = .int .u8 := by kernel_rfl
theorem csz117 : csz Tryd.prog 117 = some 1 := by kernel_rfl
theorem bsz117 : bsz Tryd.prog 117 = some 1 := by kernel_rfl
theorem zro117 : zro Tryd.prog 117 = some (.int .u8 0) := by kernel_rfl
theorem agg117 : aggT Tryd.prog 117 = some false := by kernel_rfl
theorem tk119 : tk Tryd.prog 119 = .int .i32 := by kernel_rfl
theorem csz119 : csz Tryd.prog 119 = some 1 := by kernel_rfl
theorem bsz119 : bsz Tryd.prog 119 = some 4 := by kernel_rfl
theorem zro119 : zro Tryd.prog 119 = some (.int .i32 0) := by kernel_rfl
theorem agg119 : aggT Tryd.prog 119 = some false := by kernel_rfl
theorem tk120 : tk Tryd.prog 120 = .int .i32 := by kernel_rfl
theorem csz120 : csz Tryd.prog 120 = some 1 := by kernel_rfl
theorem bsz120 : bsz Tryd.prog 120 = some 4 := by kernel_rfl
theorem zro120 : zro Tryd.prog 120 = some (.int .i32 0) := by kernel_rfl
theorem agg120 : aggT Tryd.prog 120 = some false := by kernel_rfl
theorem tk121 : tk Tryd.prog 121 = .struct [(12, 0), (12, 1), (93, 2), (116, 3), (5, 4), (5, 5), (117, 6), (118, 7), (98, 8), (119, 9), (120, 10)] := by kernel_rfl
theorem csz121 : csz Tryd.prog 121 = some 11 := by kernel_rfl
theorem bsz121 : bsz Tryd.prog 121 = some 48 := by kernel_rfl
theorem agg121 : aggT Tryd.prog 121 = some true := by kernel_rfl
theorem tk122 : tk Tryd.prog 122 = .struct [(12, 0), (12, 1), (93, 2), (116, 3), (5, 4), (5, 5), (117, 6), (118, 7), (98, 8), (119, 9), (120, 10)] := by kernel_rfl
theorem csz122 : csz Tryd.prog 122 = some 11 := by kernel_rfl
theorem bsz122 : bsz Tryd.prog 122 = some 48 := by kernel_rfl
theorem agg122 : aggT Tryd.prog 122 = some true := by kernel_rfl
attribute [go_sem] tk2 csz2 bsz2 zro2 agg2 tk3 csz3 bsz3 zro3 agg3 tk4 csz4 bsz4 zro4 agg4 tk5 csz5 bsz5 zro5 agg5 tk6 csz6 bsz6 zro6 agg6 tk7 csz7 bsz7 zro7 agg7 plc7 eqt7 tk8 csz8 bsz8 zro8 agg8 plc8 eqt8 tk9 csz9 bsz9 zro9 agg9 tk10 csz10 bsz10 zro10 agg10 tk11 csz11 bsz11 zro11 agg11 tk12 csz12 bsz12 zro12 agg12 tk13 csz13 bsz13 zro13 agg13 plc13 tk14 csz14 bsz14 zro14 agg14 plc14 tk15 csz15 bsz15 agg15 tk16 csz16 bsz16 agg16 tk17 csz17 bsz17 agg17 tk18 csz18 bsz18 agg18 plc18 tk19 csz19 bsz19 agg19 plc19 tk21 csz21 bsz21 zro21 agg21 tk22 csz22 bsz22 zro22 agg22 tk24 csz24 bsz24 zro24 agg24 plc24 eqt24 tk25 csz25 bsz25 zro25 agg25 plc25 eqt25 tk27 csz27 bsz27 zro27 agg27 plc27 tk28 csz28 bsz28 zro28 agg28 plc28 tk47 csz47 bsz47 agg47 tk62 csz62 bsz62 zro62 agg62 tk65 csz65 bsz65 zro65 agg65 tk66 csz66 bsz66 zro66 agg66 plc66 tk67 csz67 bsz67 zro67 agg67 plc67 tk70 csz70 bsz70 zro70 agg70 plc70 tk71 csz71 bsz71 zro71 agg71 plc71 tk75 csz75 bsz75 agg75 tk76 csz76 bsz76 zro76 agg76 tk79 csz79 bsz79 agg79 tk80 csz80 bsz80 agg80 plc80 tk81 csz81 bsz81 agg81 plc81 tk93 csz93 bsz93 zro93 agg93 tk98 csz98 bsz98 agg98 tk107 csz107 bsz107 zro107 agg107 plc107 tk108 csz108 bsz108 zro108 agg108 plc108 eqt108 tk109 csz109 bsz109 zro109 agg109 plc109 eqt109 tk110 csz110 bsz110 zro110 agg110 plc110 tk111 csz111 bsz111 agg111 plc111 tk112 csz112 bsz112 agg112 plc112 tk113 csz113 bsz113 zro113 agg113 plc113 tk114 csz114 bsz114 zro114 agg114 plc114 tk115 csz115 bsz115 zro115 agg115 plc115 tk116 csz116 bsz116 zro116 agg116 tk117 csz117 bsz117 zro117 agg117 tk119 csz119 bsz119 zro119 agg119 tk120 csz120 bsz120 zro120 agg120 tk121 csz121 bsz121 agg121 tk122 csz122 bsz122 agg122
end Go.Ab
