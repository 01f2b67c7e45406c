/- What the types of the program are; each fact is checked. Conditions: none. -/
import Derived.Test.YthdbfnjekbnbkaaDoorAb2
import Derived.Test.YthdbfnjekbnbkaaDoorProg
namespace Go.Ab
open Go.RowKit Go.Proofs
theorem mo : Tryd.prog.follows .mixedOrders = true := by kernel_rfl
theorem tk2 : tk Tryd.prog 2 = .int .i64 := by kernel_rfl
theorem csz2 : csz Tryd.prog 2 = some 1 := by kernel_rfl
theorem bsz2 : bsz Tryd.prog 2 = some 8 := by kernel_rfl
theorem zro2 : zro Tryd.prog 2 = some (.int .i64 0) := by kernel_rfl
theorem agg2 : aggT Tryd.prog 2 = some false := by kernel_rfl
theorem tk3 : tk Tryd.prog 3 = .int .i64 := by kernel_rfl
theorem csz3 : csz Tryd.prog 3 = some 1 := by kernel_rfl
theorem bsz3 : bsz Tryd.prog 3 = some 8 := by kernel_rfl
theorem zro3 : zro Tryd.prog 3 = some (.int .i64 0) := by kernel_rfl
theorem agg3 : aggT Tryd.prog 3 = some false := by kernel_rfl
theorem tk4 : tk Tryd.prog 4 = .bool := by kernel_rfl
theorem csz4 : csz Tryd.prog 4 = some 1 := by kernel_rfl
theorem bsz4 : bsz Tryd.prog 4 = some 1 := by kernel_rfl
theorem zro4 : zro Tryd.prog 4 = some (.bool false) := by kernel_rfl
theorem agg4 : aggT Tryd.prog 4 = some false := by kernel_rfl
theorem tk5 : tk Tryd.prog 5 = .int .u8 := by kernel_rfl
theorem csz5 : csz Tryd.prog 5 = some 1 := by kernel_rfl
theorem bsz5 : bsz Tryd.prog 5 = some 1 := by kernel_rfl
theorem zro5 : zro Tryd.prog 5 = some (.int .u8 0) := by kernel_rfl
theorem agg5 : aggT Tryd.prog 5 = some false := by kernel_rfl
theorem tk6 : tk Tryd.prog 6 = .int .u8 := by kernel_rfl
theorem csz6 : csz Tryd.prog 6 = some 1 := by kernel_rfl
theorem bsz6 : bsz Tryd.prog 6 = some 1 := by kernel_rfl
theorem zro6 : zro Tryd.prog 6 = some (.int .u8 0) := by kernel_rfl
theorem agg6 : aggT Tryd.prog 6 = some false := by kernel_rfl
theorem tk7 : tk Tryd.prog 7 = .struct [(2, 0), (3, 1), (4, 2), (6, 3)] := by kernel_rfl
theorem csz7 : csz Tryd.prog 7 = some 4 := by kernel_rfl
theorem bsz7 : bsz Tryd.prog 7 = some 24 := by kernel_rfl
theorem zro7 : zro Tryd.prog 7 = some (.agg [.int .i64 0, .int .i64 0, .bool false, .int .u8 0]) := by kernel_rfl
theorem agg7 : aggT Tryd.prog 7 = some true := by kernel_rfl
theorem plc7 : plcF Tryd.prog 7 = some (plcL [(0, 1), (1, 1), (2, 1), (3, 1)]) := by
  have h : plc Tryd.prog 7 = some [(0, 1), (1, 1), (2, 1), (3, 1)] := by kernel_rfl
  simp only [plcF, tk7, h, Option.map_some]; rfl
theorem eqt7 : eqTypes Tryd.prog 7 = true := by kernel_rfl
theorem tk8 : tk Tryd.prog 8 = .struct [(2, 0), (3, 1), (4, 2), (6, 3)] := by kernel_rfl
theorem csz8 : csz Tryd.prog 8 = some 4 := by kernel_rfl
theorem bsz8 : bsz Tryd.prog 8 = some 24 := by kernel_rfl
theorem zro8 : zro Tryd.prog 8 = some (.agg [.int .i64 0, .int .i64 0, .bool false, .int .u8 0]) := by kernel_rfl
theorem agg8 : aggT Tryd.prog 8 = some true := by kernel_rfl
theorem plc8 : plcF Tryd.prog 8 = some (plcL [(0, 1), (1, 1), (2, 1), (3, 1)]) := by
  have h : plc Tryd.prog 8 = some [(0, 1), (1, 1), (2, 1), (3, 1)] := by kernel_rfl
  simp only [plcF, tk8, h, Option.map_some]; rfl
theorem eqt8 : eqTypes Tryd.prog 8 = true := by kernel_rfl
theorem tk9 : tk Tryd.prog 9 = .str := by kernel_rfl
theorem csz9 : csz Tryd.prog 9 = some 1 := by kernel_rfl
theorem bsz9 : bsz Tryd.prog 9 = some 16 := by kernel_rfl
theorem zro9 : zro Tryd.prog 9 = some (.str []) := by kernel_rfl
theorem agg9 : aggT Tryd.prog 9 = some false := by kernel_rfl
theorem tk10 : tk Tryd.prog 10 = .str := by kernel_rfl
theorem csz10 : csz Tryd.prog 10 = some 1 := by kernel_rfl
theorem bsz10 : bsz Tryd.prog 10 = some 16 := by kernel_rfl
theorem zro10 : zro Tryd.prog 10 = some (.str []) := by kernel_rfl
theorem agg10 : aggT Tryd.prog 10 = some false := by kernel_rfl
theorem tk11 : tk Tryd.prog 11 = .str := by kernel_rfl
theorem csz11 : csz Tryd.prog 11 = some 1 := by kernel_rfl
theorem bsz11 : bsz Tryd.prog 11 = some 16 := by kernel_rfl
theorem zro11 : zro Tryd.prog 11 = some (.str []) := by kernel_rfl
theorem agg11 : aggT Tryd.prog 11 = some false := by kernel_rfl
theorem tk12 : tk Tryd.prog 12 = .int .u64 := by kernel_rfl
theorem csz12 : csz Tryd.prog 12 = some 1 := by kernel_rfl
theorem bsz12 : bsz Tryd.prog 12 = some 8 := by kernel_rfl
theorem zro12 : zro Tryd.prog 12 = some (.int .u64 0) := by kernel_rfl
theorem agg12 : aggT Tryd.prog 12 = some false := by kernel_rfl
theorem tk13 : tk Tryd.prog 13 = .struct [(9, 0), (12, 1)] := by kernel_rfl
theorem csz13 : csz Tryd.prog 13 = some 2 := by kernel_rfl
theorem bsz13 : bsz Tryd.prog 13 = some 24 := by kernel_rfl
theorem zro13 : zro Tryd.prog 13 = some (.agg [.str [], .int .u64 0]) := by kernel_rfl
theorem agg13 : aggT Tryd.prog 13 = some true := by kernel_rfl
theorem plc13 : plcF Tryd.prog 13 = some (plcL [(0, 1), (1, 1)]) := by
  have h : plc Tryd.prog 13 = some [(0, 1), (1, 1)] := by kernel_rfl
  simp only [plcF, tk13, h, Option.map_some]; rfl
theorem tk14 : tk Tryd.prog 14 = .struct [(9, 0), (12, 1)] := by kernel_rfl
theorem csz14 : csz Tryd.prog 14 = some 2 := by kernel_rfl
theorem bsz14 : bsz Tryd.prog 14 = some 24 := by kernel_rfl
theorem zro14 : zro Tryd.prog 14 = some (.agg [.str [], .int .u64 0]) := by kernel_rfl
theorem agg14 : aggT Tryd.prog 14 = some true := by kernel_rfl
theorem plc14 : plcF Tryd.prog 14 = some (plcL [(0, 1), (1, 1)]) := by
  have h : plc Tryd.prog 14 = some [(0, 1), (1, 1)] := by kernel_rfl
  simp only [plcF, tk14, h, Option.map_some]; rfl
theorem tk15 : tk Tryd.prog 15 = .ptr 172 := by kernel_rfl
theorem csz15 : csz Tryd.prog 15 = some 1 := by kernel_rfl
theorem bsz15 : bsz Tryd.prog 15 = some 8 := by kernel_rfl
theorem agg15 : aggT Tryd.prog 15 = some false := by kernel_rfl
theorem tk16 : tk Tryd.prog 16 = .ptr 175 := by kernel_rfl
theorem csz16 : csz Tryd.prog 16 = some 1 := by kernel_rfl
theorem bsz16 : bsz Tryd.prog 16 = some 8 := by kernel_rfl
theorem agg16 : aggT Tryd.prog 16 = some false := by kernel_rfl
theorem tk17 : tk Tryd.prog 17 = .ptr 182 := by kernel_rfl
theorem csz17 : csz Tryd.prog 17 = some 1 := by kernel_rfl
theorem bsz17 : bsz Tryd.prog 17 = some 8 := by kernel_rfl
theorem agg17 : aggT Tryd.prog 17 = some false := by kernel_rfl
theorem tk18 : tk Tryd.prog 18 = .struct [(17, 0)] := by kernel_rfl
theorem csz18 : csz Tryd.prog 18 = some 1 := by kernel_rfl
theorem bsz18 : bsz Tryd.prog 18 = some 8 := by kernel_rfl
theorem agg18 : aggT Tryd.prog 18 = some true := by kernel_rfl
theorem plc18 : plcF Tryd.prog 18 = some (plcL [(0, 1)]) := by
  have h : plc Tryd.prog 18 = some [(0, 1)] := by kernel_rfl
  simp only [plcF, tk18, h, Option.map_some]; rfl
theorem tk19 : tk Tryd.prog 19 = .struct [(17, 0)] := by kernel_rfl
theorem csz19 : csz Tryd.prog 19 = some 1 := by kernel_rfl
theorem bsz19 : bsz Tryd.prog 19 = some 8 := by kernel_rfl
theorem agg19 : aggT Tryd.prog 19 = some true := by kernel_rfl
theorem plc19 : plcF Tryd.prog 19 = some (plcL [(0, 1)]) := by
  have h : plc Tryd.prog 19 = some [(0, 1)] := by kernel_rfl
  simp only [plcF, tk19, h, Option.map_some]; rfl
theorem tk21 : tk Tryd.prog 21 = .int .i32 := by kernel_rfl
theorem csz21 : csz Tryd.prog 21 = some 1 := by kernel_rfl
theorem bsz21 : bsz Tryd.prog 21 = some 4 := by kernel_rfl
theorem zro21 : zro Tryd.prog 21 = some (.int .i32 0) := by kernel_rfl
theorem agg21 : aggT Tryd.prog 21 = some false := by kernel_rfl
theorem tk22 : tk Tryd.prog 22 = .struct [(9, 0), (2, 1), (9, 2)] := by kernel_rfl
theorem csz22 : csz Tryd.prog 22 = some 3 := by kernel_rfl
theorem bsz22 : bsz Tryd.prog 22 = some 40 := by kernel_rfl
theorem zro22 : zro Tryd.prog 22 = some (.agg [.str [], .int .i64 0, .str []]) := by kernel_rfl
theorem agg22 : aggT Tryd.prog 22 = some true := by kernel_rfl
theorem plc22 : plcF Tryd.prog 22 = some (plcL [(0, 1), (1, 1), (2, 1)]) := by
  have h : plc Tryd.prog 22 = some [(0, 1), (1, 1), (2, 1)] := by kernel_rfl
  simp only [plcF, tk22, h, Option.map_some]; rfl
theorem eqt22 : eqTypes Tryd.prog 22 = true := by kernel_rfl
theorem tk23 : tk Tryd.prog 23 = .struct [(9, 0), (2, 1), (9, 2)] := by kernel_rfl
theorem csz23 : csz Tryd.prog 23 = some 3 := by kernel_rfl
theorem bsz23 : bsz Tryd.prog 23 = some 40 := by kernel_rfl
theorem zro23 : zro Tryd.prog 23 = some (.agg [.str [], .int .i64 0, .str []]) := by kernel_rfl
theorem agg23 : aggT Tryd.prog 23 = some true := by kernel_rfl
theorem plc23 : plcF Tryd.prog 23 = some (plcL [(0, 1), (1, 1), (2, 1)]) := by
  have h : plc Tryd.prog 23 = some [(0, 1), (1, 1), (2, 1)] := by kernel_rfl
  simp only [plcF, tk23, h, Option.map_some]; rfl
theorem eqt23 : eqTypes Tryd.prog 23 = true := by kernel_rfl
theorem tk30 : tk Tryd.prog 30 = .slice 130 := by kernel_rfl
theorem csz30 : csz Tryd.prog 30 = some 1 := by kernel_rfl
theorem bsz30 : bsz Tryd.prog 30 = some 24 := by kernel_rfl
theorem zro30 : zro Tryd.prog 30 = some (.nil) := by kernel_rfl
theorem agg30 : aggT Tryd.prog 30 = some false := by kernel_rfl
theorem tk31 : tk Tryd.prog 31 = .struct [(2, 0), (2, 1), (30, 2)] := by kernel_rfl
theorem csz31 : csz Tryd.prog 31 = some 3 := by kernel_rfl
theorem bsz31 : bsz Tryd.prog 31 = some 40 := by kernel_rfl
theorem zro31 : zro Tryd.prog 31 = some (.agg [.int .i64 0, .int .i64 0, .nil]) := by kernel_rfl
theorem agg31 : aggT Tryd.prog 31 = some true := by kernel_rfl
theorem plc31 : plcF Tryd.prog 31 = some (plcL [(0, 1), (1, 1), (2, 1)]) := by
  have h : plc Tryd.prog 31 = some [(0, 1), (1, 1), (2, 1)] := by kernel_rfl
  simp only [plcF, tk31, h, Option.map_some]; rfl
theorem tk32 : tk Tryd.prog 32 = .struct [(2, 0), (2, 1), (30, 2)] := by kernel_rfl
theorem csz32 : csz Tryd.prog 32 = some 3 := by kernel_rfl
theorem bsz32 : bsz Tryd.prog 32 = some 40 := by kernel_rfl
theorem zro32 : zro Tryd.prog 32 = some (.agg [.int .i64 0, .int .i64 0, .nil]) := by kernel_rfl
theorem agg32 : aggT Tryd.prog 32 = some true := by kernel_rfl
theorem plc32 : plcF Tryd.prog 32 = some (plcL [(0, 1), (1, 1), (2, 1)]) := by
  have h : plc Tryd.prog 32 = some [(0, 1), (1, 1), (2, 1)] := by kernel_rfl
  simp only [plcF, tk32, h, Option.map_some]; rfl
theorem tk33 : tk Tryd.prog 33 = .slice 9 := by kernel_rfl
theorem csz33 : csz Tryd.prog 33 = some 1 := by kernel_rfl
theorem bsz33 : bsz Tryd.prog 33 = some 24 := by kernel_rfl
theorem zro33 : zro Tryd.prog 33 = some (.nil) := by kernel_rfl
theorem agg33 : aggT Tryd.prog 33 = some false := by kernel_rfl
theorem tk34 : tk Tryd.prog 34 = .struct [(32, 0), (9, 3), (2, 4), (33, 5), (9, 6), (9, 7)] := by kernel_rfl
theorem csz34 : csz Tryd.prog 34 = some 8 := by kernel_rfl
theorem bsz34 : bsz Tryd.prog 34 = some 120 := by kernel_rfl
theorem zro34 : zro Tryd.prog 34 = some (.agg [.int .i64 0, .int .i64 0, .nil, .str [], .int .i64 0, .nil, .str [], .str []]) := by kernel_rfl
theorem agg34 : aggT Tryd.prog 34 = some true := by kernel_rfl
theorem plc34 : plcF Tryd.prog 34 = some (plcL [(0, 3), (3, 1), (4, 1), (5, 1), (6, 1), (7, 1)]) := by
  have h : plc Tryd.prog 34 = some [(0, 3), (3, 1), (4, 1), (5, 1), (6, 1), (7, 1)] := by kernel_rfl
  simp only [plcF, tk34, h, Option.map_some]; rfl
theorem tk35 : tk Tryd.prog 35 = .struct [(32, 0), (9, 3), (2, 4), (33, 5), (9, 6), (9, 7)] := by kernel_rfl
theorem csz35 : csz Tryd.prog 35 = some 8 := by kernel_rfl
theorem bsz35 : bsz Tryd.prog 35 = some 120 := by kernel_rfl
theorem zro35 : zro Tryd.prog 35 = some (.agg [.int .i64 0, .int .i64 0, .nil, .str [], .int .i64 0, .nil, .str [], .str []]) := by kernel_rfl
theorem agg35 : aggT Tryd.prog 35 = some true := by kernel_rfl
theorem plc35 : plcF Tryd.prog 35 = some (plcL [(0, 3), (3, 1), (4, 1), (5, 1), (6, 1), (7, 1)]) := by
  have h : plc Tryd.prog 35 = some [(0, 3), (3, 1), (4, 1), (5, 1), (6, 1), (7, 1)] := by kernel_rfl
  simp only [plcF, tk35, h, Option.map_some]; rfl
theorem tk38 : tk Tryd.prog 38 = .slice 81 := by kernel_rfl
theorem csz38 : csz Tryd.prog 38 = some 1 := by kernel_rfl
theorem bsz38 : bsz Tryd.prog 38 = some 24 := by kernel_rfl
theorem zro38 : zro Tryd.prog 38 = some (.nil) := by kernel_rfl
theorem agg38 : aggT Tryd.prog 38 = some false := by kernel_rfl
theorem tk39 : tk Tryd.prog 39 = .struct [(2, 0), (2, 1), (38, 2)] := by kernel_rfl
theorem csz39 : csz Tryd.prog 39 = some 3 := by kernel_rfl
theorem bsz39 : bsz Tryd.prog 39 = some 40 := by kernel_rfl
theorem zro39 : zro Tryd.prog 39 = some (.agg [.int .i64 0, .int .i64 0, .nil]) := by kernel_rfl
theorem agg39 : aggT Tryd.prog 39 = some true := by kernel_rfl
theorem plc39 : plcF Tryd.prog 39 = some (plcL [(0, 1), (1, 1), (2, 1)]) := by
  have h : plc Tryd.prog 39 = some [(0, 1), (1, 1), (2, 1)] := by kernel_rfl
  simp only [plcF, tk39, h, Option.map_some]; rfl
theorem tk40 : tk Tryd.prog 40 = .struct [(2, 0), (2, 1), (38, 2)] := by kernel_rfl
theorem csz40 : csz Tryd.prog 40 = some 3 := by kernel_rfl
theorem bsz40 : bsz Tryd.prog 40 = some 40 := by kernel_rfl
theorem zro40 : zro Tryd.prog 40 = some (.agg [.int .i64 0, .int .i64 0, .nil]) := by kernel_rfl
theorem agg40 : aggT Tryd.prog 40 = some true := by kernel_rfl
theorem plc40 : plcF Tryd.prog 40 = some (plcL [(0, 1), (1, 1), (2, 1)]) := by
  have h : plc Tryd.prog 40 = some [(0, 1), (1, 1), (2, 1)] := by kernel_rfl
  simp only [plcF, tk40, h, Option.map_some]; rfl
theorem tk41 : tk Tryd.prog 41 = .struct [(40, 0), (9, 3), (2, 4), (33, 5), (9, 6), (9, 7)] := by kernel_rfl
theorem csz41 : csz Tryd.prog 41 = some 8 := by kernel_rfl
theorem bsz41 : bsz Tryd.prog 41 = some 120 := by kernel_rfl
theorem zro41 : zro Tryd.prog 41 = some (.agg [.int .i64 0, .int .i64 0, .nil, .str [], .int .i64 0, .nil, .str [], .str []]) := by kernel_rfl
theorem agg41 : aggT Tryd.prog 41 = some true := by kernel_rfl
theorem plc41 : plcF Tryd.prog 41 = some (plcL [(0, 3), (3, 1), (4, 1), (5, 1), (6, 1), (7, 1)]) := by
  have h : plc Tryd.prog 41 = some [(0, 3), (3, 1), (4, 1), (5, 1), (6, 1), (7, 1)] := by kernel_rfl
  simp only [plcF, tk41, h, Option.map_some]; rfl
theorem tk42 : tk Tryd.prog 42 = .struct [(40, 0), (9, 3), (2, 4), (33, 5), (9, 6), (9, 7)] := by kernel_rfl
theorem csz42 : csz Tryd.prog 42 = some 8 := by kernel_rfl
theorem bsz42 : bsz Tryd.prog 42 = some 120 := by kernel_rfl
theorem zro42 : zro Tryd.prog 42 = some (.agg [.int .i64 0, .int .i64 0, .nil, .str [], .int .i64 0, .nil, .str [], .str []]) := by kernel_rfl
theorem agg42 : aggT Tryd.prog 42 = some true := by kernel_rfl
theorem plc42 : plcF Tryd.prog 42 = some (plcL [(0, 3), (3, 1), (4, 1), (5, 1), (6, 1), (7, 1)]) := by
  have h : plc Tryd.prog 42 = some [(0, 3), (3, 1), (4, 1), (5, 1), (6, 1), (7, 1)] := by kernel_rfl
  simp only [plcF, tk42, h, Option.map_some]; rfl
theorem tk47 : tk Tryd.prog 47 = .slice 2 := by kernel_rfl
theorem csz47 : csz Tryd.prog 47 = some 1 := by kernel_rfl
theorem bsz47 : bsz Tryd.prog 47 = some 24 := by kernel_rfl
theorem zro47 : zro Tryd.prog 47 = some (.nil) := by kernel_rfl
theorem agg47 : aggT Tryd.prog 47 = some false := by kernel_rfl
theorem tk48 : tk Tryd.prog 48 = .struct [(47, 0), (47, 1), (2, 2), (4, 3), (4, 4)] := by kernel_rfl
theorem csz48 : csz Tryd.prog 48 = some 5 := by kernel_rfl
theorem bsz48 : bsz Tryd.prog 48 = some 64 := by kernel_rfl
theorem zro48 : zro Tryd.prog 48 = some (.agg [.nil, .nil, .int .i64 0, .bool false, .bool false]) := by kernel_rfl
theorem agg48 : aggT Tryd.prog 48 = some true := by kernel_rfl
theorem plc48 : plcF Tryd.prog 48 = some (plcL [(0, 1), (1, 1), (2, 1), (3, 1), (4, 1)]) := by
  have h : plc Tryd.prog 48 = some [(0, 1), (1, 1), (2, 1), (3, 1), (4, 1)] := by kernel_rfl
  simp only [plcF, tk48, h, Option.map_some]; rfl
theorem tk49 : tk Tryd.prog 49 = .struct [(47, 0), (47, 1), (2, 2), (4, 3), (4, 4)] := by kernel_rfl
theorem csz49 : csz Tryd.prog 49 = some 5 := by kernel_rfl
theorem bsz49 : bsz Tryd.prog 49 = some 64 := by kernel_rfl
theorem zro49 : zro Tryd.prog 49 = some (.agg [.nil, .nil, .int .i64 0, .bool false, .bool false]) := by kernel_rfl
theorem agg49 : aggT Tryd.prog 49 = some true := by kernel_rfl
theorem plc49 : plcF Tryd.prog 49 = some (plcL [(0, 1), (1, 1), (2, 1), (3, 1), (4, 1)]) := by
  have h : plc Tryd.prog 49 = some [(0, 1), (1, 1), (2, 1), (3, 1), (4, 1)] := by kernel_rfl
  simp only [plcF, tk49, h, Option.map_some]; rfl
theorem tk52 : tk Tryd.prog 52 = .struct [(47, 0), (47, 1), (2, 2), (4, 3), (4, 4)] := by kernel_rfl
theorem csz52 : csz Tryd.prog 52 = some 5 := by kernel_rfl
theorem bsz52 : bsz Tryd.prog 52 = some 64 := by kernel_rfl
theorem zro52 : zro Tryd.prog 52 = some (.agg [.nil, .nil, .int .i64 0, .bool false, .bool false]) := by kernel_rfl
theorem agg52 : aggT Tryd.prog 52 = some true := by kernel_rfl
theorem plc52 : plcF Tryd.prog 52 = some (plcL [(0, 1), (1, 1), (2, 1), (3, 1), (4, 1)]) := by
  have h : plc Tryd.prog 52 = some [(0, 1), (1, 1), (2, 1), (3, 1), (4, 1)] := by kernel_rfl
  simp only [plcF, tk52, h, Option.map_some]; rfl
theorem tk59 : tk Tryd.prog 59 = .ptr 23 := by kernel_rfl
theorem csz59 : csz Tryd.prog 59 = some 1 := by kernel_rfl
theorem bsz59 : bsz Tryd.prog 59 = some 8 := by kernel_rfl
theorem agg59 : aggT Tryd.prog 59 = some false := by kernel_rfl
theorem tk69 : tk Tryd.prog 69 = .ptr 42 := by kernel_rfl
theorem csz69 : csz Tryd.prog 69 = some 1 := by kernel_rfl
theorem bsz69 : bsz Tryd.prog 69 = some 8 := by kernel_rfl
theorem agg69 : aggT Tryd.prog 69 = some false := by kernel_rfl
theorem tk78 : tk Tryd.prog 78 = .arr 4 9 := by kernel_rfl
theorem csz78 : csz Tryd.prog 78 = some 4 := by kernel_rfl
theorem bsz78 : bsz Tryd.prog 78 = some 64 := by kernel_rfl
theorem zro78 : zro Tryd.prog 78 = some (.agg [.str [], .str [], .str [], .str []]) := by kernel_rfl
theorem agg78 : aggT Tryd.prog 78 = some true := by kernel_rfl
theorem plc78 : plcF Tryd.prog 78 = some (plcM 1) := by
  simp only [plcF, tk78, csz9, Option.map_some]; rfl
theorem tk80 : tk Tryd.prog 80 = .struct [(2, 0), (2, 1), (2, 2), (2, 3), (9, 4), (4, 5), (4, 6), (4, 7)] := by kernel_rfl
theorem csz80 : csz Tryd.prog 80 = some 8 := by kernel_rfl
theorem bsz80 : bsz Tryd.prog 80 = some 56 := by kernel_rfl
theorem zro80 : zro Tryd.prog 80 = some (.agg [.int .i64 0, .int .i64 0, .int .i64 0, .int .i64 0, .str [], .bool false, .bool false, .bool false]) := by kernel_rfl
theorem agg80 : aggT Tryd.prog 80 = some true := by kernel_rfl
theorem plc80 : plcF Tryd.prog 80 = some (plcL [(0, 1), (1, 1), (2, 1), (3, 1), (4, 1), (5, 1), (6, 1), (7, 1)]) := by
  have h : plc Tryd.prog 80 = some [(0, 1), (1, 1), (2, 1), (3, 1), (4, 1), (5, 1), (6, 1), (7, 1)] := by kernel_rfl
  simp only [plcF, tk80, h, Option.map_some]; rfl
theorem eqt80 : eqTypes Tryd.prog 80 = true := by kernel_rfl
theorem tk81 : tk Tryd.prog 81 = .struct [(2, 0), (2, 1), (2, 2), (2, 3), (9, 4), (4, 5), (4, 6), (4, 7)] := by kernel_rfl
theorem csz81 : csz Tryd.prog 81 = some 8 := by kernel_rfl
theorem bsz81 : bsz Tryd.prog 81 = some 56 := by kernel_rfl
theorem zro81 : zro Tryd.prog 81 = some (.agg [.int .i64 0, .int .i64 0, .int .i64 0, .int .i64 0, .str [], .bool false, .bool false, .bool false]) := by kernel_rfl
theorem agg81 : aggT Tryd.prog 81 = some true := by kernel_rfl
theorem plc81 : plcF Tryd.prog 81 = some (plcL [(0, 1), (1, 1), (2, 1), (3, 1), (4, 1), (5, 1), (6, 1), (7, 1)]) := by
  have h : plc Tryd.prog 81 = some [(0, 1), (1, 1), (2, 1), (3, 1), (4, 1), (5, 1), (6, 1), (7, 1)] := by kernel_rfl
  simp only [plcF, tk81, h, Option.map_some]; rfl
theorem eqt81 : eqTypes Tryd.prog 81 = true := by kernel_rfl
theorem tk85 : tk Tryd.prog 85 = .ptr 52 := by kernel_rfl
theorem csz85 : csz Tryd.prog 85 = some 1 := by kernel_rfl
theorem bsz85 : bsz Tryd.prog 85 = some 8 := by kernel_rfl
theorem agg85 : aggT Tryd.prog 85 = some false := by kernel_rfl
theorem tk94 : tk Tryd.prog 94 = .arr 256 4 := by kernel_rfl
theorem csz94 : csz Tryd.prog 94 = some 256 := by kernel_rfl
theorem bsz94 : bsz Tryd.prog 94 = some 256 := by kernel_rfl
theorem zro94 : zro Tryd.prog 94 = some (.agg [.bool false, .bool false, .bool false, .bool false, .bool false, .bool false, .bool false, .bool false, .bool false, .bool false, .bool false, .bool false, .bool false, .bool false, .bool false, .bool false, .bool false, .bool false, .bool false, .bool false, .bool false, .bool false, .bool false, .bool false, .bool false, .bool false, .bool false, .bool false, .bool false, .bool false, .bool false, .bool false, .bool false, .bool false, .bool false, .bool false, .bool false, .bool false, .bool false, .bool false, .bool false, .bool false, .bool false, .bool false, .bool false, .bool false, .bool false, .bool false, .bool false, .bool false, .bool false, .bool false, .bool false, .bool false, .bool false, .bool false, .bool false, .bool false, .bool false, .bool false, .bool false, .bool false, .bool false, .bool false, .bool false, .bool false, .bool false, .bool false, .bool false, .bool false, .bool false, .bool false, .bool false, .bool false, .bool false, .bool false, .bool false, .bool false, .bool false, .bool false, .bool false, .bool false, .bool false, .bool false, .bool false, .bool false, .bool false, .bool false, .bool false, .bool false, .bool false, .bool false, .bool false, .bool false, .bool false, .bool false, .bool false, .bool false, .bool false, .bool false, .bool false, .bool false, .bool false, .bool false, .bool false, .bool false, .bool false, .bool false, .bool false, .bool false, .bool false, .bool false, .bool false, .bool false, .bool false, .bool false, .bool false, .bool false, .bool false, .bool false, .bool false, .bool false, .bool false, .bool false, .bool false, .bool false, .bool false, .bool false, .bool false, .bool false, .bool false, .bool false, .bool false, .bool false, .bool false, .bool false, .bool false, .bool false, .bool false, .bool false, .bool false, .bool false, .bool false, .bool false, .bool false, .bool false, .bool false, .bool false, .bool false, .bool false, .bool false, .bool false, .bool false, .bool false, .bool false, .bool false, .bool false, .bool false, .bool false, .bool false, .bool false, .bool false, .bool false, .bool false, .bool false, .bool false, .bool false, .bool false, .bool false, .bool false, .bool false, .bool false, .bool false, .bool false, .bool false, .bool false, .bool false, .bool false, .bool false, .bool false, .bool false, .bool false, .bool false, .bool false, .bool false, .bool false, .bool false, .bool false, .bool false, .bool false, .bool false, .bool false, .bool false, .bool false, .bool false, .bool false, .bool false, .bool false, .bool false, .bool false, .bool false, .bool false, .bool false, .bool false, .bool false, .bool false, .bool false, .bool false, .bool false, .bool false, .bool false, .bool false, .bool false, .bool false, .bool false, .bool false, .bool false, .bool false, .bool false, .bool false, .bool false, .bool false, .bool false, .bool false, .bool false, .bool false, .bool false, .bool false, .bool false, .bool false, .bool false, .bool false, .bool false, .bool false, .bool false, .bool false, .bool false, .bool false, .bool false, .bool false, .bool false, .bool false, .bool false, .bool false, .bool false, .bool false, .bool false, .bool false, .bool false, .bool false, .bool false, .bool false, .bool false, .bool false, .bool false, .bool false]) := by kernel_rfl
theorem agg94 : aggT Tryd.prog 94 = some true := by kernel_rfl
theorem plc94 : plcF Tryd.prog 94 = some (plcM 1) := by
  simp only [plcF, tk94, csz4, Option.map_some]; rfl
theorem tk95 : tk Tryd.prog 95 = .arr 256 4 := by kernel_rfl
theorem csz95 : csz Tryd.prog 95 = some 256 := by kernel_rfl
theorem bsz95 : bsz Tryd.prog 95 = some 256 := by kernel_rfl
theorem zro95 : zro Tryd.prog 95 = some (.agg [.bool false, .bool false, .bool false, .bool false, .bool false, .bool false, .bool false, .bool false, .bool false, .bool false, .bool false, .bool false, .bool false, .bool false, .bool false, .bool false, .bool false, .bool false, .bool false, .bool false, .bool false, .bool false, .bool false, .bool false, .bool false, .bool false, .bool false, .bool false, .bool false, .bool false, .bool false, .bool false, .bool false, .bool false, .bool false, .bool false, .bool false, .bool false, .bool false, .bool false, .bool false, .bool false, .bool false, .bool false, .bool false, .bool false, .bool false, .bool false, .bool false, .bool false, .bool false, .bool false, .bool false, .bool false, .bool false, .bool false, .bool false, .bool false, .bool false, .bool false, .bool false, .bool false, .bool false, .bool false, .bool false, .bool false, .bool false, .bool false, .bool false, .bool false, .bool false, .bool false, .bool false, .bool false, .bool false, .bool false, .bool false, .bool false, .bool false, .bool false, .bool false, .bool false, .bool false, .bool false, .bool false, .bool false, .bool false, .bool false, .bool false, .bool false, .bool false, .bool false, .bool false, .bool false, .bool false, .bool false, .bool false, .bool false, .bool false, .bool false, .bool false, .bool false, .bool false, .bool false, .bool false, .bool false, .bool false, .bool false, .bool false, .bool false, .bool false, .bool false, .bool false, .bool false, .bool false, .bool false, .bool false, .bool false, .bool false, .bool false, .bool false, .bool false, .bool false, .bool false, .bool false, .bool false, .bool false, .bool false, .bool false, .bool false, .bool false, .bool false, .bool false, .bool false, .bool false, .bool false, .bool false, .bool false, .bool false, .bool false, .bool false, .bool false, .bool false, .bool false, .bool false, .bool false, .bool false, .bool false, .bool false, .bool false, .bool false, .bool false, .bool false, .bool false, .bool false, .bool false, .bool false, .bool false, .bool false, .bool false, .bool false, .bool false, .bool false, .bool false, .bool false, .bool false, .bool false, .bool false, .bool false, .bool false, .bool false, .bool false, .bool false, .bool false, .bool false, .bool false, .bool false, .bool false, .bool false, .bool false, .bool false, .bool false, .bool false, .bool false, .bool false, .bool false, .bool false, .bool false, .bool false, .bool false, .bool false, .bool false, .bool false, .bool false, .bool false, .bool false, .bool false, .bool false, .bool false, .bool false, .bool false, .bool false, .bool false, .bool false, .bool false, .bool false, .bool false, .bool false, .bool false, .bool false, .bool false, .bool false, .bool false, .bool false, .bool false, .bool false, .bool false, .bool false, .bool false, .bool false, .bool false, .bool false, .bool false, .bool false, .bool false, .bool false, .bool false, .bool false, .bool false, .bool false, .bool false, .bool false, .bool false, .bool false, .bool false, .bool false, .bool false, .bool false, .bool false, .bool false, .bool false, .bool false, .bool false, .bool false, .bool false, .bool false, .bool false, .bool false, .bool false, .bool false, .bool false, .bool false, .bool false, .bool false, .bool false, .bool false]) := by kernel_rfl
theorem agg95 : aggT Tryd.prog 95 = some true := by kernel_rfl
theorem plc95 : plcF Tryd.prog 95 = some (plcM 1) := by
  simp only [plcF, tk95, csz4, Option.map_some]; rfl
theorem tk99 : tk Tryd.prog 99 = .ptr 95 := by kernel_rfl
theorem csz99 : csz Tryd.prog 99 = some 1 := by kernel_rfl
theorem bsz99 : bsz Tryd.prog 99 = some 8 := by kernel_rfl
theorem agg99 : aggT Tryd.prog 99 = some false := by kernel_rfl
theorem tk101 : tk Tryd.prog 101 = .int .u64 := by kernel_rfl
theorem csz101 : csz Tryd.prog 101 = some 1 := by kernel_rfl
theorem bsz101 : bsz Tryd.prog 101 = some 8 := by kernel_rfl
theorem zro101 : zro Tryd.prog 101 = some (.int .u64 0) := by kernel_rfl
theorem agg101 : aggT Tryd.prog 101 = some false := by kernel_rfl
theorem tk102 : tk Tryd.prog 102 = .slice 5 := by kernel_rfl
theorem csz102 : csz Tryd.prog 102 = some 1 := by kernel_rfl
theorem bsz102 : bsz Tryd.prog 102 = some 24 := by kernel_rfl
theorem zro102 : zro Tryd.prog 102 = some (.nil) := by kernel_rfl
theorem agg102 : aggT Tryd.prog 102 = some false := by kernel_rfl
theorem tk110 : tk Tryd.prog 110 = .slice 47 := by kernel_rfl
theorem csz110 : csz Tryd.prog 110 = some 1 := by kernel_rfl
theorem bsz110 : bsz Tryd.prog 110 = some 24 := by kernel_rfl
theorem zro110 : zro Tryd.prog 110 = some (.nil) := by kernel_rfl
theorem agg110 : aggT Tryd.prog 110 = some false := by kernel_rfl
theorem tk119 : tk Tryd.prog 119 = .ptr 121 := by kernel_rfl
theorem csz119 : csz Tryd.prog 119 = some 1 := by kernel_rfl
theorem bsz119 : bsz Tryd.prog 119 = some 8 := by kernel_rfl
theorem agg119 : aggT Tryd.prog 119 = some false := by kernel_rfl
theorem tk120 : tk Tryd.prog 120 = .struct [(119, 0), (102, 1)] := by kernel_rfl
theorem csz120 : csz Tryd.prog 120 = some 2 := by kernel_rfl
theorem bsz120 : bsz Tryd.prog 120 = some 32 := by kernel_rfl
theorem agg120 : aggT Tryd.prog 120 = some true := by kernel_rfl
theorem plc120 : plcF Tryd.prog 120 = some (plcL [(0, 1), (1, 1)]) := by
  have h : plc Tryd.prog 120 = some [(0, 1), (1, 1)] := by kernel_rfl
  simp only [plcF, tk120, h, Option.map_some]; rfl
theorem tk121 : tk Tryd.prog 121 = .struct [(119, 0), (102, 1)] := by kernel_rfl
theorem csz121 : csz Tryd.prog 121 = some 2 := by kernel_rfl
theorem bsz121 : bsz Tryd.prog 121 = some 32 := by kernel_rfl
theorem agg121 : aggT Tryd.prog 121 = some true := by kernel_rfl
theorem plc121 : plcF Tryd.prog 121 = some (plcL [(0, 1), (1, 1)]) := by
  have h : plc Tryd.prog 121 = some [(0, 1), (1, 1)] := by kernel_rfl
  simp only [plcF, tk121, h, Option.map_some]; rfl
theorem tk130 : tk Tryd.prog 130 = .struct [(2, 0), (2, 1), (2, 2), (2, 3), (9, 4), (4, 5), (4, 6), (4, 7)] := by kernel_rfl
theorem csz130 : csz Tryd.prog 130 = some 8 := by kernel_rfl
theorem bsz130 : bsz Tryd.prog 130 = some 56 := by kernel_rfl
theorem zro130 : zro Tryd.prog 130 = some (.agg [.int .i64 0, .int .i64 0, .int .i64 0, .int .i64 0, .str [], .bool false, .bool false, .bool false]) := by kernel_rfl
theorem agg130 : aggT Tryd.prog 130 = some true := by kernel_rfl
theorem plc130 : plcF Tryd.prog 130 = some (plcL [(0, 1), (1, 1), (2, 1), (3, 1), (4, 1), (5, 1), (6, 1), (7, 1)]) := by
  have h : plc Tryd.prog 130 = some [(0, 1), (1, 1), (2, 1), (3, 1), (4, 1), (5, 1), (6, 1), (7, 1)] := by kernel_rfl
  simp only [plcF, tk130, h, Option.map_some]; rfl
theorem eqt130 : eqTypes Tryd.prog 130 = true := by kernel_rfl
theorem tk132 : tk Tryd.prog 132 = .ptr 40 := by kernel_rfl
theorem csz132 : csz Tryd.prog 132 = some 1 := by kernel_rfl
theorem bsz132 : bsz Tryd.prog 132 = some 8 := by kernel_rfl
theorem agg132 : aggT Tryd.prog 132 = some false := by kernel_rfl
theorem tk137 : tk Tryd.prog 137 = .int .u32 := by kernel_rfl
theorem csz137 : csz Tryd.prog 137 = some 1 := by kernel_rfl
theorem bsz137 : bsz Tryd.prog 137 = some 4 := by kernel_rfl
theorem zro137 : zro Tryd.prog 137 = some (.int .u32 0) := by kernel_rfl
theorem agg137 : aggT Tryd.prog 137 = some false := by kernel_rfl
theorem tk140 : tk Tryd.prog 140 = .int .u64 := by kernel_rfl
theorem csz140 : csz Tryd.prog 140 = some 1 := by kernel_rfl
theorem bsz140 : bsz Tryd.prog 140 = some 8 := by kernel_rfl
theorem zro140 : zro Tryd.prog 140 = some (.int .u64 0) := by kernel_rfl
theorem agg140 : aggT Tryd.prog 140 = some false := by kernel_rfl
theorem tk143 : tk Tryd.prog 143 = .ptr 5 := by kernel_rfl
theorem csz143 : csz Tryd.prog 143 = some 1 := by kernel_rfl
theorem bsz143 : bsz Tryd.prog 143 = some 8 := by kernel_rfl
theorem agg143 : aggT Tryd.prog 143 = some false := by kernel_rfl
theorem tk145 : tk Tryd.prog 145 = .ptr 81 := by kernel_rfl
theorem csz145 : csz Tryd.prog 145 = some 1 := by kernel_rfl
theorem bsz145 : bsz Tryd.prog 145 = some 8 := by kernel_rfl
theorem agg145 : aggT Tryd.prog 145 = some false := by kernel_rfl
theorem tk147 : tk Tryd.prog 147 = .arr 24 5 := by kernel_rfl
theorem csz147 : csz Tryd.prog 147 = some 24 := by kernel_rfl
theorem bsz147 : bsz Tryd.prog 147 = some 24 := by kernel_rfl
theorem zro147 : zro Tryd.prog 147 = some (.agg [.int .u8 0, .int .u8 0, .int .u8 0, .int .u8 0, .int .u8 0, .int .u8 0, .int .u8 0, .int .u8 0, .int .u8 0, .int .u8 0, .int .u8 0, .int .u8 0, .int .u8 0, .int .u8 0, .int .u8 0, .int .u8 0, .int .u8 0, .int .u8 0, .int .u8 0, .int .u8 0, .int .u8 0, .int .u8 0, .int .u8 0, .int .u8 0]) := by kernel_rfl
theorem agg147 : aggT Tryd.prog 147 = some true := by kernel_rfl
theorem plc147 : plcF Tryd.prog 147 = some (plcM 1) := by
  simp only [plcF, tk147, csz5, Option.map_some]; rfl
theorem tk160 : tk Tryd.prog 160 = .arr 20 140 := by kernel_rfl
theorem csz160 : csz Tryd.prog 160 = some 20 := by kernel_rfl
theorem bsz160 : bsz Tryd.prog 160 = some 160 := by kernel_rfl
theorem zro160 : zro Tryd.prog 160 = some (.agg [.int .u64 0, .int .u64 0, .int .u64 0, .int .u64 0, .int .u64 0, .int .u64 0, .int .u64 0, .int .u64 0, .int .u64 0, .int .u64 0, .int .u64 0, .int .u64 0, .int .u64 0, .int .u64 0, .int .u64 0, .int .u64 0, .int .u64 0, .int .u64 0, .int .u64 0, .int .u64 0]) := by kernel_rfl
theorem agg160 : aggT Tryd.prog 160 = some true := by kernel_rfl
theorem plc160 : plcF Tryd.prog 160 = some (plcM 1) := by
  simp only [plcF, tk160, csz140, Option.map_some]; rfl
theorem tk161 : tk Tryd.prog 161 = .arr 65 5 := by kernel_rfl
theorem csz161 : csz Tryd.prog 161 = some 65 := by kernel_rfl
theorem bsz161 : bsz Tryd.prog 161 = some 65 := by kernel_rfl
theorem zro161 : zro Tryd.prog 161 = some (.agg [.int .u8 0, .int .u8 0, .int .u8 0, .int .u8 0, .int .u8 0, .int .u8 0, .int .u8 0, .int .u8 0, .int .u8 0, .int .u8 0, .int .u8 0, .int .u8 0, .int .u8 0, .int .u8 0, .int .u8 0, .int .u8 0, .int .u8 0, .int .u8 0, .int .u8 0, .int .u8 0, .int .u8 0, .int .u8 0, .int .u8 0, .int .u8 0, .int .u8 0, .int .u8 0, .int .u8 0, .int .u8 0, .int .u8 0, .int .u8 0, .int .u8 0, .int .u8 0, .int .u8 0, .int .u8 0, .int .u8 0, .int .u8 0, .int .u8 0, .int .u8 0, .int .u8 0, .int .u8 0, .int .u8 0, .int .u8 0, .int .u8 0, .int .u8 0, .int .u8 0, .int .u8 0, .int .u8 0, .int .u8 0, .int .u8 0, .int .u8 0, .int .u8 0, .int .u8 0, .int .u8 0, .int .u8 0, .int .u8 0, .int .u8 0, .int .u8 0, .int .u8 0, .int .u8 0, .int .u8 0, .int .u8 0, .int .u8 0, .int .u8 0, .int .u8 0, .int .u8 0]) := by kernel_rfl
theorem agg161 : aggT Tryd.prog 161 = some true := by kernel_rfl
theorem plc161 : plcF Tryd.prog 161 = some (plcM 1) := by
  simp only [plcF, tk161, csz5, Option.map_some]; rfl
theorem tk164 : tk Tryd.prog 164 = .arr 256 5 := by kernel_rfl
theorem csz164 : csz Tryd.prog 164 = some 256 := by kernel_rfl
theorem bsz164 : bsz Tryd.prog 164 = some 256 := by kernel_rfl
theorem zro164 : zro Tryd.prog 164 = some (.agg [.int .u8 0, .int .u8 0, .int .u8 0, .int .u8 0, .int .u8 0, .int .u8 0, .int .u8 0, .int .u8 0, .int .u8 0, .int .u8 0, .int .u8 0, .int .u8 0, .int .u8 0, .int .u8 0, .int .u8 0, .int .u8 0, .int .u8 0, .int .u8 0, .int .u8 0, .int .u8 0, .int .u8 0, .int .u8 0, .int .u8 0, .int .u8 0, .int .u8 0, .int .u8 0, .int .u8 0, .int .u8 0, .int .u8 0, .int .u8 0, .int .u8 0, .int .u8 0, .int .u8 0, .int .u8 0, .int .u8 0, .int .u8 0, .int .u8 0, .int .u8 0, .int .u8 0, .int .u8 0, .int .u8 0, .int .u8 0, .int .u8 0, .int .u8 0, .int .u8 0, .int .u8 0, .int .u8 0, .int .u8 0, .int .u8 0, .int .u8 0, .int .u8 0, .int .u8 0, .int .u8 0, .int .u8 0, .int .u8 0, .int .u8 0, .int .u8 0, .int .u8 0, .int .u8 0, .int .u8 0, .int .u8 0, .int .u8 0, .int .u8 0, .int .u8 0, .int .u8 0, .int .u8 0, .int .u8 0, .int .u8 0, .int .u8 0, .int .u8 0, .int .u8 0, .int .u8 0, .int .u8 0, .int .u8 0, .int .u8 0, .int .u8 0, .int .u8 0, .int .u8 0, .int .u8 0, .int .u8 0, .int .u8 0, .int .u8 0, .int .u8 0, .int .u8 0, .int .u8 0, .int .u8 0, .int .u8 0, .int .u8 0, .int .u8 0, .int .u8 0, .int .u8 0, .int .u8 0, .int .u8 0, .int .u8 0, .int .u8 0, .int .u8 0, .int .u8 0, .int .u8 0, .int .u8 0, .int .u8 0, .int .u8 0, .int .u8 0, .int .u8 0, .int .u8 0, .int .u8 0, .int .u8 0, .int .u8 0, .int .u8 0, .int .u8 0, .int .u8 0, .int .u8 0, .int .u8 0, .int .u8 0, .int .u8 0, .int .u8 0, .int .u8 0, .int .u8 0, .int .u8 0, .int .u8 0, .int .u8 0, .int .u8 0, .int .u8 0, .int .u8 0, .int .u8 0, .int .u8 0, .int .u8 0, .int .u8 0, .int .u8 0, .int .u8 0, .int .u8 0, .int .u8 0, .int .u8 0, .int .u8 0, .int .u8 0, .int .u8 0, .int .u8 0, .int .u8 0, .int .u8 0, .int .u8 0, .int .u8 0, .int .u8 0, .int .u8 0, .int .u8 0, .int .u8 0, .int .u8 0, .int .u8 0, .int .u8 0, .int .u8 0, .int .u8 0, .int .u8 0, .int .u8 0, .int .u8 0, .int .u8 0, .int .u8 0, .int .u8 0, .int .u8 0, .int .u8 0, .int .u8 0, .int .u8 0, .int .u8 0, .int .u8 0, .int .u8 0, .int .u8 0, .int .u8 0, .int .u8 0, .int .u8 0, .int .u8 0, .int .u8 0, .int .u8 0, .int .u8 0, .int .u8 0, .int .u8 0, .int .u8 0, .int .u8 0, .int .u8 0, .int .u8 0, .int .u8 0, .int .u8 0, .int .u8 0, .int .u8 0, .int .u8 0, .int .u8 0, .int .u8 0, .int .u8 0, .int .u8 0, .int .u8 0, .int .u8 0, .int .u8 0, .int .u8 0, .int .u8 0, .int .u8 0, .int .u8 0, .int .u8 0, .int .u8 0, .int .u8 0, .int .u8 0, .int .u8 0, .int .u8 0, .int .u8 0, .int .u8 0, .int .u8 0, .int .u8 0, .int .u8 0, .int .u8 0, .int .u8 0, .int .u8 0, .int .u8 0, .int .u8 0, .int .u8 0, .int .u8 0, .int .u8 0, .int .u8 0, .int .u8 0, .int .u8 0, .int .u8 0, .int .u8 0, .int .u8 0, .int .u8 0, .int .u8 0, .int .u8 0, .int .u8 0, .int .u8 0, .int .u8 0, .int .u8 0, .int .u8 0, .int .u8 0, .int .u8 0, .int .u8 0, .int .u8 0, .int .u8 0, .int .u8 0, .int .u8 0, .int .u8 0, .int .u8 0, .int .u8 0, .int .u8 0, .int .u8 0, .int .u8 0, .int .u8 0, .int .u8 0, .int .u8 0, .int .u8 0, .int .u8 0, .int .u8 0, .int .u8 0, .int .u8 0, .int .u8 0, .int .u8 0, .int .u8 0, .int .u8 0, .int .u8 0, .int .u8 0, .int .u8 0, .int .u8 0, .int .u8 0, .int .u8 0]) := by kernel_rfl
theorem agg164 : aggT Tryd.prog 164 = some true := by kernel_rfl
theorem plc164 : plcF Tryd.prog 164 = some (plcM 1) := by
  simp only [plcF, tk164, csz5, Option.map_some]; rfl
theorem tk165 : tk Tryd.prog 165 = .struct [(5, 0), (5, 1)] := by kernel_rfl
theorem csz165 : csz Tryd.prog 165 = some 2 := by kernel_rfl
theorem bsz165 : bsz Tryd.prog 165 = some 2 := by kernel_rfl
theorem zro165 : zro Tryd.prog 165 = some (.agg [.int .u8 0, .int .u8 0]) := by kernel_rfl
theorem agg165 : aggT Tryd.prog 165 = some true := by kernel_rfl
theorem plc165 : plcF Tryd.prog 165 = some (plcL [(0, 1), (1, 1)]) := by
  have h : plc Tryd.prog 165 = some [(0, 1), (1, 1)] := by kernel_rfl
  simp only [plcF, tk165, h, Option.map_some]; rfl
theorem eqt165 : eqTypes Tryd.prog 165 = true := by kernel_rfl
theorem tk166 : tk Tryd.prog 166 = .struct [(5, 0), (5, 1)] := by kernel_rfl
theorem csz166 : csz Tryd.prog 166 = some 2 := by kernel_rfl
theorem bsz166 : bsz Tryd.prog 166 = some 2 := by kernel_rfl
theorem zro166 : zro Tryd.prog 166 = some (.agg [.int .u8 0, .int .u8 0]) := by kernel_rfl
theorem agg166 : aggT Tryd.prog 166 = some true := by kernel_rfl
theorem plc166 : plcF Tryd.prog 166 = some (plcL [(0, 1), (1, 1)]) := by
  have h : plc Tryd.prog 166 = some [(0, 1), (1, 1)] := by kernel_rfl
  simp only [plcF, tk166, h, Option.map_some]; rfl
theorem eqt166 : eqTypes Tryd.prog 166 = true := by kernel_rfl
theorem tk167 : tk Tryd.prog 167 = .arr 16 166 := by kernel_rfl
theorem csz167 : csz Tryd.prog 167 = some 32 := by kernel_rfl
theorem bsz167 : bsz Tryd.prog 167 = some 32 := by kernel_rfl
theorem zro167 : zro Tryd.prog 167 = some (.agg [.int .u8 0, .int .u8 0, .int .u8 0, .int .u8 0, .int .u8 0, .int .u8 0, .int .u8 0, .int .u8 0, .int .u8 0, .int .u8 0, .int .u8 0, .int .u8 0, .int .u8 0, .int .u8 0, .int .u8 0, .int .u8 0, .int .u8 0, .int .u8 0, .int .u8 0, .int .u8 0, .int .u8 0, .int .u8 0, .int .u8 0, .int .u8 0, .int .u8 0, .int .u8 0, .int .u8 0, .int .u8 0, .int .u8 0, .int .u8 0, .int .u8 0, .int .u8 0]) := by kernel_rfl
theorem agg167 : aggT Tryd.prog 167 = some true := by kernel_rfl
theorem plc167 : plcF Tryd.prog 167 = some (plcM 2) := by
  simp only [plcF, tk167, csz166, Option.map_some]; rfl
theorem tk169 : tk Tryd.prog 169 = .arr 32 5 := by kernel_rfl
theorem csz169 : csz Tryd.prog 169 = some 32 := by kernel_rfl
theorem bsz169 : bsz Tryd.prog 169 = some 32 := by kernel_rfl
theorem zro169 : zro Tryd.prog 169 = some (.agg [.int .u8 0, .int .u8 0, .int .u8 0, .int .u8 0, .int .u8 0, .int .u8 0, .int .u8 0, .int .u8 0, .int .u8 0, .int .u8 0, .int .u8 0, .int .u8 0, .int .u8 0, .int .u8 0, .int .u8 0, .int .u8 0, .int .u8 0, .int .u8 0, .int .u8 0, .int .u8 0, .int .u8 0, .int .u8 0, .int .u8 0, .int .u8 0, .int .u8 0, .int .u8 0, .int .u8 0, .int .u8 0, .int .u8 0, .int .u8 0, .int .u8 0, .int .u8 0]) := by kernel_rfl
theorem agg169 : aggT Tryd.prog 169 = some true := by kernel_rfl
theorem plc169 : plcF Tryd.prog 169 = some (plcM 1) := by
  simp only [plcF, tk169, csz5, Option.map_some]; rfl
theorem tk170 : tk Tryd.prog 170 = .arr 64 5 := by kernel_rfl
theorem csz170 : csz Tryd.prog 170 = some 64 := by kernel_rfl
theorem bsz170 : bsz Tryd.prog 170 = some 64 := by kernel_rfl
theorem zro170 : zro Tryd.prog 170 = some (.agg [.int .u8 0, .int .u8 0, .int .u8 0, .int .u8 0, .int .u8 0, .int .u8 0, .int .u8 0, .int .u8 0, .int .u8 0, .int .u8 0, .int .u8 0, .int .u8 0, .int .u8 0, .int .u8 0, .int .u8 0, .int .u8 0, .int .u8 0, .int .u8 0, .int .u8 0, .int .u8 0, .int .u8 0, .int .u8 0, .int .u8 0, .int .u8 0, .int .u8 0, .int .u8 0, .int .u8 0, .int .u8 0, .int .u8 0, .int .u8 0, .int .u8 0, .int .u8 0, .int .u8 0, .int .u8 0, .int .u8 0, .int .u8 0, .int .u8 0, .int .u8 0, .int .u8 0, .int .u8 0, .int .u8 0, .int .u8 0, .int .u8 0, .int .u8 0, .int .u8 0, .int .u8 0, .int .u8 0, .int .u8 0, .int .u8 0, .int .u8 0, .int .u8 0, .int .u8 0, .int .u8 0, .int .u8 0, .int .u8 0, .int .u8 0, .int .u8 0, .int .u8 0, .int .u8 0, .int .u8 0, .int .u8 0, .int .u8 0, .int .u8 0, .int .u8 0]) := by kernel_rfl
theorem agg170 : aggT Tryd.prog 170 = some true := by kernel_rfl
theorem plc170 : plcF Tryd.prog 170 = some (plcM 1) := by
  simp only [plcF, tk170, csz5, Option.map_some]; rfl
theorem tk171 : tk Tryd.prog 171 = .struct [(17, 0), (17, 1), (17, 2), (9, 3)] := by kernel_rfl
theorem csz171 : csz Tryd.prog 171 = some 4 := by kernel_rfl
theorem bsz171 : bsz Tryd.prog 171 = some 40 := by kernel_rfl
theorem agg171 : aggT Tryd.prog 171 = some true := by kernel_rfl
theorem plc171 : plcF Tryd.prog 171 = some (plcL [(0, 1), (1, 1), (2, 1), (3, 1)]) := by
  have h : plc Tryd.prog 171 = some [(0, 1), (1, 1), (2, 1), (3, 1)] := by kernel_rfl
  simp only [plcF, tk171, h, Option.map_some]; rfl
theorem tk172 : tk Tryd.prog 172 = .struct [(17, 0), (17, 1), (17, 2), (9, 3)] := by kernel_rfl
theorem csz172 : csz Tryd.prog 172 = some 4 := by kernel_rfl
theorem bsz172 : bsz Tryd.prog 172 = some 40 := by kernel_rfl
theorem agg172 : aggT Tryd.prog 172 = some true := by kernel_rfl
theorem plc172 : plcF Tryd.prog 172 = some (plcL [(0, 1), (1, 1), (2, 1), (3, 1)]) := by
  have h : plc Tryd.prog 172 = some [(0, 1), (1, 1), (2, 1), (3, 1)] := by kernel_rfl
  simp only [plcF, tk172, h, Option.map_some]; rfl
theorem tk173 : tk Tryd.prog 173 = .arr 0 16 := by kernel_rfl
theorem csz173 : csz Tryd.prog 173 = some 0 := by kernel_rfl
theorem bsz173 : bsz Tryd.prog 173 = some 0 := by kernel_rfl
theorem zro173 : zro Tryd.prog 173 = some (.agg []) := by kernel_rfl
theorem agg173 : aggT Tryd.prog 173 = some true := by kernel_rfl
theorem plc173 : plcF Tryd.prog 173 = some (plcM 1) := by
  simp only [plcF, tk173, csz16, Option.map_some]; rfl
theorem tk174 : tk Tryd.prog 174 = .struct [(173, 0)] := by kernel_rfl
theorem csz174 : csz Tryd.prog 174 = some 0 := by kernel_rfl
theorem bsz174 : bsz Tryd.prog 174 = some 0 := by kernel_rfl
theorem zro174 : zro Tryd.prog 174 = some (.agg []) := by kernel_rfl
theorem agg174 : aggT Tryd.prog 174 = some true := by kernel_rfl
theorem plc174 : plcF Tryd.prog 174 = some (plcL [(0, 0)]) := by
  have h : plc Tryd.prog 174 = some [(0, 0)] := by kernel_rfl
  simp only [plcF, tk174, h, Option.map_some]; rfl
theorem tk175 : tk Tryd.prog 175 = .struct [(173, 0)] := by kernel_rfl
theorem csz175 : csz Tryd.prog 175 = some 0 := by kernel_rfl
theorem bsz175 : bsz Tryd.prog 175 = some 0 := by kernel_rfl
theorem zro175 : zro Tryd.prog 175 = some (.agg []) := by kernel_rfl
theorem agg175 : aggT Tryd.prog 175 = some true := by kernel_rfl
theorem plc175 : plcF Tryd.prog 175 = some (plcL [(0, 0)]) := by
  have h : plc Tryd.prog 175 = some [(0, 0)] := by kernel_rfl
  simp only [plcF, tk175, h, Option.map_some]; rfl
theorem tk176 : tk Tryd.prog 176 = .int .u8 := by kernel_rfl
theorem csz176 : csz Tryd.prog 176 = some 1 := by kernel_rfl
theorem bsz176 : bsz Tryd.prog 176 = some 1 := by kernel_rfl
theorem zro176 : zro Tryd.prog 176 = some (.int .u8 0) := by kernel_rfl
theorem agg176 : aggT Tryd.prog 176 = some false := by kernel_rfl
theorem tk177 : tk Tryd.prog 177 = .int .u8 := by kernel_rfl
theorem csz177 : csz Tryd.prog 177 = some 1 := by kernel_rfl
theorem bsz177 : bsz Tryd.prog 177 = some 1 := by kernel_rfl
theorem zro177 : zro Tryd.prog 177 = some (.int .u8 0) := by kernel_rfl
theorem agg177 : aggT Tryd.prog 177 = some false := by kernel_rfl
theorem tk179 : tk Tryd.prog 179 = .int .i32 := by kernel_rfl
theorem csz179 : csz Tryd.prog 179 = some 1 := by kernel_rfl
theorem bsz179 : bsz Tryd.prog 179 = some 4 := by kernel_rfl
theorem zro179 : zro Tryd.prog 179 = some (.int .i32 0) := by kernel_rfl
theorem agg179 : aggT Tryd.prog 179 = some false := by kernel_rfl
theorem tk180 : tk Tryd.prog 180 = .int .i32 := by kernel_rfl
theorem csz180 : csz Tryd.prog 180 = some 1 := by kernel_rfl
theorem bsz180 : bsz Tryd.prog 180 = some 4 := by kernel_rfl
theorem zro180 : zro Tryd.prog 180 = some (.int .i32 0) := by kernel_rfl
theorem agg180 : aggT Tryd.prog 180 = some false := by kernel_rfl
theorem tk181 : tk Tryd.prog 181 = .struct [(12, 0), (12, 1), (137, 2), (176, 3), (5, 4), (5, 5), (177, 6), (178, 7), (143, 8), (179, 9), (180, 10)] := by kernel_rfl
theorem csz181 : csz Tryd.prog 181 = some 11 := by kernel_rfl
theorem bsz181 : bsz Tryd.prog 181 = some 48 := by kernel_rfl
theorem agg181 : aggT Tryd.prog 181 = some true := by kernel_rfl
theorem tk182 : tk Tryd.prog 182 = .struct [(12, 0), (12, 1), (137, 2), (176, 3), (5, 4), (5, 5), (177, 6), (178, 7), (143, 8), (179, 9), (180, 10)] := by kernel_rfl
theorem csz182 : csz Tryd.prog 182 = some 11 := by kernel_rfl
theorem bsz182 : bsz Tryd.prog 182 = some 48 := by kernel_rfl
theorem agg182 : aggT Tryd.prog 182 = some true := by kernel_rfl
attribute [go_sem] tk2 csz2 bsz2 zro2 agg2 tk3 csz3 bsz3 zro3 agg3 tk4 csz4 bsz4 zro4 agg4 tk5 csz5 bsz5 zro5 agg5 tk6 csz6 bsz6 zro6 agg6 tk7 csz7 bsz7 zro7 agg7 plc7 eqt7 tk8 csz8 bsz8 zro8 agg8 plc8 eqt8 tk9 csz9 bsz9 zro9 agg9 tk10 csz10 bsz10 zro10 agg10 tk11 csz11 bsz11 zro11 agg11 tk12 csz12 bsz12 zro12 agg12 tk13 csz13 bsz13 zro13 agg13 plc13 tk14 csz14 bsz14 zro14 agg14 plc14 tk15 csz15 bsz15 agg15 tk16 csz16 bsz16 agg16 tk17 csz17 bsz17 agg17 tk18 csz18 bsz18 agg18 plc18 tk19 csz19 bsz19 agg19 plc19 tk21 csz21 bsz21 zro21 agg21 tk22 csz22 bsz22 zro22 agg22 plc22 eqt22 tk23 csz23 bsz23 zro23 agg23 plc23 eqt23 tk30 csz30 bsz30 zro30 agg30 tk31 csz31 bsz31 zro31 agg31 plc31 tk32 csz32 bsz32 zro32 agg32 plc32 tk33 csz33 bsz33 zro33 agg33 tk34 csz34 bsz34 zro34 agg34 plc34 tk35 csz35 bsz35 zro35 agg35 plc35 tk38 csz38 bsz38 zro38 agg38 tk39 csz39 bsz39 zro39 agg39 plc39 tk40 csz40 bsz40 zro40 agg40 plc40 tk41 csz41 bsz41 zro41 agg41 plc41 tk42 csz42 bsz42 zro42 agg42 plc42 tk47 csz47 bsz47 zro47 agg47 tk48 csz48 bsz48 zro48 agg48 plc48 tk49 csz49 bsz49 zro49 agg49 plc49 tk52 csz52 bsz52 zro52 agg52 plc52 tk59 csz59 bsz59 agg59 tk69 csz69 bsz69 agg69 tk78 csz78 bsz78 zro78 agg78 plc78 tk80 csz80 bsz80 zro80 agg80 plc80 eqt80 tk81 csz81 bsz81 zro81 agg81 plc81 eqt81 tk85 csz85 bsz85 agg85 tk94 csz94 bsz94 zro94 agg94 plc94 tk95 csz95 bsz95 zro95 agg95 plc95 tk99 csz99 bsz99 agg99 tk101 csz101 bsz101 zro101 agg101 tk102 csz102 bsz102 zro102 agg102 tk110 csz110 bsz110 zro110 agg110 tk119 csz119 bsz119 agg119 tk120 csz120 bsz120 agg120 plc120 tk121 csz121 bsz121 agg121 plc121 tk130 csz130 bsz130 zro130 agg130 plc130 eqt130 tk132 csz132 bsz132 agg132 tk137 csz137 bsz137 zro137 agg137 tk140 csz140 bsz140 zro140 agg140 tk143 csz143 bsz143 agg143 tk145 csz145 bsz145 agg145 tk147 csz147 bsz147 zro147 agg147 plc147 tk160 csz160 bsz160 zro160 agg160 plc160 tk161 csz161 bsz161 zro161 agg161 plc161 tk164 csz164 bsz164 zro164 agg164 plc164 tk165 csz165 bsz165 zro165 agg165 plc165 eqt165 tk166 csz166 bsz166 zro166 agg166 plc166 eqt166 tk167 csz167 bsz167 zro167 agg167 plc167 tk169 csz169 bsz169 zro169 agg169 plc169 tk170 csz170 bsz170 zro170 agg170 plc170 tk171 csz171 bsz171 agg171 plc171 tk172 csz172 bsz172 agg172 plc172 tk173 csz173 bsz173 zro173 agg173 plc173 tk174 csz174 bsz174 zro174 agg174 plc174 tk175 csz175 bsz175 zro175 agg175 plc175 tk176 csz176 bsz176 zro176 agg176 tk177 csz177 bsz177 zro177 agg177 tk179 csz179 bsz179 zro179 agg179 tk180 csz180 bsz180 zro180 agg180 tk181 csz181 bsz181 agg181 tk182 csz182 bsz182 agg182
end Go.Ab
