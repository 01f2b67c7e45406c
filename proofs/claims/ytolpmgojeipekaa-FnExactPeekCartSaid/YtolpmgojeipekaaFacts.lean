/- What the types of the program are; each fact is checked. Conditions: none. -/
import Derived.Test.YtolpmgojeipekaaAb2
import Derived.Test.YtolpmgojeipekaaProg
namespace Go.Ab
open Go.RowKit Go.Proofs
theorem mo : Try.prog.follows .mixedOrders = true := by kernel_rfl
theorem tk2 : tk Try.prog 2 = .int .i64 := by kernel_rfl
theorem csz2 : csz Try.prog 2 = some 1 := by kernel_rfl
theorem bsz2 : bsz Try.prog 2 = some 8 := by kernel_rfl
theorem zro2 : zro Try.prog 2 = some (.int .i64 0) := by kernel_rfl
theorem agg2 : aggT Try.prog 2 = some false := by kernel_rfl
theorem tk3 : tk Try.prog 3 = .int .i64 := by kernel_rfl
theorem csz3 : csz Try.prog 3 = some 1 := by kernel_rfl
theorem bsz3 : bsz Try.prog 3 = some 8 := by kernel_rfl
theorem zro3 : zro Try.prog 3 = some (.int .i64 0) := by kernel_rfl
theorem agg3 : aggT Try.prog 3 = some false := by kernel_rfl
theorem tk4 : tk Try.prog 4 = .bool := by kernel_rfl
theorem csz4 : csz Try.prog 4 = some 1 := by kernel_rfl
theorem bsz4 : bsz Try.prog 4 = some 1 := by kernel_rfl
theorem zro4 : zro Try.prog 4 = some (.bool false) := by kernel_rfl
theorem agg4 : aggT Try.prog 4 = some false := by kernel_rfl
theorem tk5 : tk Try.prog 5 = .int .u8 := by kernel_rfl
theorem csz5 : csz Try.prog 5 = some 1 := by kernel_rfl
theorem bsz5 : bsz Try.prog 5 = some 1 := by kernel_rfl
theorem zro5 : zro Try.prog 5 = some (.int .u8 0) := by kernel_rfl
theorem agg5 : aggT Try.prog 5 = some false := by kernel_rfl
theorem tk6 : tk Try.prog 6 = .int .u8 := by kernel_rfl
theorem csz6 : csz Try.prog 6 = some 1 := by kernel_rfl
theorem bsz6 : bsz Try.prog 6 = some 1 := by kernel_rfl
theorem zro6 : zro Try.prog 6 = some (.int .u8 0) := by kernel_rfl
theorem agg6 : aggT Try.prog 6 = some false := by kernel_rfl
theorem tk7 : tk Try.prog 7 = .struct [(2, 0), (3, 1), (4, 2), (6, 3)] := by kernel_rfl
theorem csz7 : csz Try.prog 7 = some 4 := by kernel_rfl
theorem bsz7 : bsz Try.prog 7 = some 24 := by kernel_rfl
theorem zro7 : zro Try.prog 7 = some (.agg [.int .i64 0, .int .i64 0, .bool false, .int .u8 0]) := by kernel_rfl
theorem agg7 : aggT Try.prog 7 = some true := by kernel_rfl
theorem plc7 : plcF Try.prog 7 = some (plcL [(0, 1), (1, 1), (2, 1), (3, 1)]) := by
  have h : plc Try.prog 7 = some [(0, 1), (1, 1), (2, 1), (3, 1)] := by kernel_rfl
  simp only [plcF, tk7, h, Option.map_some]; rfl
theorem eqt7 : eqTypes Try.prog 7 = true := by kernel_rfl
theorem tk8 : tk Try.prog 8 = .struct [(2, 0), (3, 1), (4, 2), (6, 3)] := by kernel_rfl
theorem csz8 : csz Try.prog 8 = some 4 := by kernel_rfl
theorem bsz8 : bsz Try.prog 8 = some 24 := by kernel_rfl
theorem zro8 : zro Try.prog 8 = some (.agg [.int .i64 0, .int .i64 0, .bool false, .int .u8 0]) := by kernel_rfl
theorem agg8 : aggT Try.prog 8 = some true := by kernel_rfl
theorem plc8 : plcF Try.prog 8 = some (plcL [(0, 1), (1, 1), (2, 1), (3, 1)]) := by
  have h : plc Try.prog 8 = some [(0, 1), (1, 1), (2, 1), (3, 1)] := by kernel_rfl
  simp only [plcF, tk8, h, Option.map_some]; rfl
theorem eqt8 : eqTypes Try.prog 8 = true := by kernel_rfl
theorem tk9 : tk Try.prog 9 = .str := by kernel_rfl
theorem csz9 : csz Try.prog 9 = some 1 := by kernel_rfl
theorem bsz9 : bsz Try.prog 9 = some 16 := by kernel_rfl
theorem zro9 : zro Try.prog 9 = some (.str []) := by kernel_rfl
theorem agg9 : aggT Try.prog 9 = some false := by kernel_rfl
theorem tk10 : tk Try.prog 10 = .str := by kernel_rfl
theorem csz10 : csz Try.prog 10 = some 1 := by kernel_rfl
theorem bsz10 : bsz Try.prog 10 = some 16 := by kernel_rfl
theorem zro10 : zro Try.prog 10 = some (.str []) := by kernel_rfl
theorem agg10 : aggT Try.prog 10 = some false := by kernel_rfl
theorem tk11 : tk Try.prog 11 = .str := by kernel_rfl
theorem csz11 : csz Try.prog 11 = some 1 := by kernel_rfl
theorem bsz11 : bsz Try.prog 11 = some 16 := by kernel_rfl
theorem zro11 : zro Try.prog 11 = some (.str []) := by kernel_rfl
theorem agg11 : aggT Try.prog 11 = some false := by kernel_rfl
theorem tk12 : tk Try.prog 12 = .int .u64 := by kernel_rfl
theorem csz12 : csz Try.prog 12 = some 1 := by kernel_rfl
theorem bsz12 : bsz Try.prog 12 = some 8 := by kernel_rfl
theorem zro12 : zro Try.prog 12 = some (.int .u64 0) := by kernel_rfl
theorem agg12 : aggT Try.prog 12 = some false := by kernel_rfl
theorem tk13 : tk Try.prog 13 = .struct [(9, 0), (12, 1)] := by kernel_rfl
theorem csz13 : csz Try.prog 13 = some 2 := by kernel_rfl
theorem bsz13 : bsz Try.prog 13 = some 24 := by kernel_rfl
theorem zro13 : zro Try.prog 13 = some (.agg [.str [], .int .u64 0]) := by kernel_rfl
theorem agg13 : aggT Try.prog 13 = some true := by kernel_rfl
theorem plc13 : plcF Try.prog 13 = some (plcL [(0, 1), (1, 1)]) := by
  have h : plc Try.prog 13 = some [(0, 1), (1, 1)] := by kernel_rfl
  simp only [plcF, tk13, h, Option.map_some]; rfl
theorem tk14 : tk Try.prog 14 = .struct [(9, 0), (12, 1)] := by kernel_rfl
theorem csz14 : csz Try.prog 14 = some 2 := by kernel_rfl
theorem bsz14 : bsz Try.prog 14 = some 24 := by kernel_rfl
theorem zro14 : zro Try.prog 14 = some (.agg [.str [], .int .u64 0]) := by kernel_rfl
theorem agg14 : aggT Try.prog 14 = some true := by kernel_rfl
theorem plc14 : plcF Try.prog 14 = some (plcL [(0, 1), (1, 1)]) := by
  have h : plc Try.prog 14 = some [(0, 1), (1, 1)] := by kernel_rfl
  simp only [plcF, tk14, h, Option.map_some]; rfl
theorem tk15 : tk Try.prog 15 = .ptr 101 := by kernel_rfl
theorem csz15 : csz Try.prog 15 = some 1 := by kernel_rfl
theorem bsz15 : bsz Try.prog 15 = some 8 := by kernel_rfl
theorem agg15 : aggT Try.prog 15 = some false := by kernel_rfl
theorem tk16 : tk Try.prog 16 = .ptr 104 := by kernel_rfl
theorem csz16 : csz Try.prog 16 = some 1 := by kernel_rfl
theorem bsz16 : bsz Try.prog 16 = some 8 := by kernel_rfl
theorem agg16 : aggT Try.prog 16 = some false := by kernel_rfl
theorem tk17 : tk Try.prog 17 = .ptr 114 := by kernel_rfl
theorem csz17 : csz Try.prog 17 = some 1 := by kernel_rfl
theorem bsz17 : bsz Try.prog 17 = some 8 := by kernel_rfl
theorem agg17 : aggT Try.prog 17 = some false := by kernel_rfl
theorem tk18 : tk Try.prog 18 = .struct [(17, 0)] := by kernel_rfl
theorem csz18 : csz Try.prog 18 = some 1 := by kernel_rfl
theorem bsz18 : bsz Try.prog 18 = some 8 := by kernel_rfl
theorem agg18 : aggT Try.prog 18 = some true := by kernel_rfl
theorem plc18 : plcF Try.prog 18 = some (plcL [(0, 1)]) := by
  have h : plc Try.prog 18 = some [(0, 1)] := by kernel_rfl
  simp only [plcF, tk18, h, Option.map_some]; rfl
theorem tk19 : tk Try.prog 19 = .struct [(17, 0)] := by kernel_rfl
theorem csz19 : csz Try.prog 19 = some 1 := by kernel_rfl
theorem bsz19 : bsz Try.prog 19 = some 8 := by kernel_rfl
theorem agg19 : aggT Try.prog 19 = some true := by kernel_rfl
theorem plc19 : plcF Try.prog 19 = some (plcL [(0, 1)]) := by
  have h : plc Try.prog 19 = some [(0, 1)] := by kernel_rfl
  simp only [plcF, tk19, h, Option.map_some]; rfl
theorem tk21 : tk Try.prog 21 = .int .i32 := by kernel_rfl
theorem csz21 : csz Try.prog 21 = some 1 := by kernel_rfl
theorem bsz21 : bsz Try.prog 21 = some 4 := by kernel_rfl
theorem zro21 : zro Try.prog 21 = some (.int .i32 0) := by kernel_rfl
theorem agg21 : aggT Try.prog 21 = some false := by kernel_rfl
theorem tk22 : tk Try.prog 22 = .struct [(2, 0), (2, 1), (2, 2), (2, 3), (2, 4), (2, 5)] := by kernel_rfl
theorem csz22 : csz Try.prog 22 = some 6 := by kernel_rfl
theorem bsz22 : bsz Try.prog 22 = some 48 := by kernel_rfl
theorem zro22 : zro Try.prog 22 = some (.agg [.int .i64 0, .int .i64 0, .int .i64 0, .int .i64 0, .int .i64 0, .int .i64 0]) := by kernel_rfl
theorem agg22 : aggT Try.prog 22 = some true := by kernel_rfl
theorem plc22 : plcF Try.prog 22 = some (plcL [(0, 1), (1, 1), (2, 1), (3, 1), (4, 1), (5, 1)]) := by
  have h : plc Try.prog 22 = some [(0, 1), (1, 1), (2, 1), (3, 1), (4, 1), (5, 1)] := by kernel_rfl
  simp only [plcF, tk22, h, Option.map_some]; rfl
theorem eqt22 : eqTypes Try.prog 22 = true := by kernel_rfl
theorem tk23 : tk Try.prog 23 = .struct [(2, 0), (2, 1), (2, 2), (2, 3), (2, 4), (2, 5)] := by kernel_rfl
theorem csz23 : csz Try.prog 23 = some 6 := by kernel_rfl
theorem bsz23 : bsz Try.prog 23 = some 48 := by kernel_rfl
theorem zro23 : zro Try.prog 23 = some (.agg [.int .i64 0, .int .i64 0, .int .i64 0, .int .i64 0, .int .i64 0, .int .i64 0]) := by kernel_rfl
theorem agg23 : aggT Try.prog 23 = some true := by kernel_rfl
theorem plc23 : plcF Try.prog 23 = some (plcL [(0, 1), (1, 1), (2, 1), (3, 1), (4, 1), (5, 1)]) := by
  have h : plc Try.prog 23 = some [(0, 1), (1, 1), (2, 1), (3, 1), (4, 1), (5, 1)] := by kernel_rfl
  simp only [plcF, tk23, h, Option.map_some]; rfl
theorem eqt23 : eqTypes Try.prog 23 = true := by kernel_rfl
theorem tk25 : tk Try.prog 25 = .struct [(2, 0), (2, 1), (2, 2), (2, 3), (2, 4), (2, 5)] := by kernel_rfl
theorem csz25 : csz Try.prog 25 = some 6 := by kernel_rfl
theorem bsz25 : bsz Try.prog 25 = some 48 := by kernel_rfl
theorem zro25 : zro Try.prog 25 = some (.agg [.int .i64 0, .int .i64 0, .int .i64 0, .int .i64 0, .int .i64 0, .int .i64 0]) := by kernel_rfl
theorem agg25 : aggT Try.prog 25 = some true := by kernel_rfl
theorem plc25 : plcF Try.prog 25 = some (plcL [(0, 1), (1, 1), (2, 1), (3, 1), (4, 1), (5, 1)]) := by
  have h : plc Try.prog 25 = some [(0, 1), (1, 1), (2, 1), (3, 1), (4, 1), (5, 1)] := by kernel_rfl
  simp only [plcF, tk25, h, Option.map_some]; rfl
theorem eqt25 : eqTypes Try.prog 25 = true := by kernel_rfl
theorem tk28 : tk Try.prog 28 = .slice 9 := by kernel_rfl
theorem csz28 : csz Try.prog 28 = some 1 := by kernel_rfl
theorem bsz28 : bsz Try.prog 28 = some 24 := by kernel_rfl
theorem zro28 : zro Try.prog 28 = some (.nil) := by kernel_rfl
theorem agg28 : aggT Try.prog 28 = some false := by kernel_rfl
theorem tk33 : tk Try.prog 33 = .struct [(9, 0), (2, 1), (9, 2)] := by kernel_rfl
theorem csz33 : csz Try.prog 33 = some 3 := by kernel_rfl
theorem bsz33 : bsz Try.prog 33 = some 40 := by kernel_rfl
theorem zro33 : zro Try.prog 33 = some (.agg [.str [], .int .i64 0, .str []]) := by kernel_rfl
theorem agg33 : aggT Try.prog 33 = some true := by kernel_rfl
theorem plc33 : plcF Try.prog 33 = some (plcL [(0, 1), (1, 1), (2, 1)]) := by
  have h : plc Try.prog 33 = some [(0, 1), (1, 1), (2, 1)] := by kernel_rfl
  simp only [plcF, tk33, h, Option.map_some]; rfl
theorem eqt33 : eqTypes Try.prog 33 = true := by kernel_rfl
theorem tk34 : tk Try.prog 34 = .struct [(9, 0), (2, 1), (9, 2)] := by kernel_rfl
theorem csz34 : csz Try.prog 34 = some 3 := by kernel_rfl
theorem bsz34 : bsz Try.prog 34 = some 40 := by kernel_rfl
theorem zro34 : zro Try.prog 34 = some (.agg [.str [], .int .i64 0, .str []]) := by kernel_rfl
theorem agg34 : aggT Try.prog 34 = some true := by kernel_rfl
theorem plc34 : plcF Try.prog 34 = some (plcL [(0, 1), (1, 1), (2, 1)]) := by
  have h : plc Try.prog 34 = some [(0, 1), (1, 1), (2, 1)] := by kernel_rfl
  simp only [plcF, tk34, h, Option.map_some]; rfl
theorem eqt34 : eqTypes Try.prog 34 = true := by kernel_rfl
theorem tk36 : tk Try.prog 36 = .struct [(9, 0), (2, 1), (9, 2)] := by kernel_rfl
theorem csz36 : csz Try.prog 36 = some 3 := by kernel_rfl
theorem bsz36 : bsz Try.prog 36 = some 40 := by kernel_rfl
theorem zro36 : zro Try.prog 36 = some (.agg [.str [], .int .i64 0, .str []]) := by kernel_rfl
theorem agg36 : aggT Try.prog 36 = some true := by kernel_rfl
theorem plc36 : plcF Try.prog 36 = some (plcL [(0, 1), (1, 1), (2, 1)]) := by
  have h : plc Try.prog 36 = some [(0, 1), (1, 1), (2, 1)] := by kernel_rfl
  simp only [plcF, tk36, h, Option.map_some]; rfl
theorem eqt36 : eqTypes Try.prog 36 = true := by kernel_rfl
theorem tk37 : tk Try.prog 37 = .struct [(36, 0), (2, 3), (2, 4)] := by kernel_rfl
theorem csz37 : csz Try.prog 37 = some 5 := by kernel_rfl
theorem bsz37 : bsz Try.prog 37 = some 56 := by kernel_rfl
theorem zro37 : zro Try.prog 37 = some (.agg [.str [], .int .i64 0, .str [], .int .i64 0, .int .i64 0]) := by kernel_rfl
theorem agg37 : aggT Try.prog 37 = some true := by kernel_rfl
theorem plc37 : plcF Try.prog 37 = some (plcL [(0, 3), (3, 1), (4, 1)]) := by
  have h : plc Try.prog 37 = some [(0, 3), (3, 1), (4, 1)] := by kernel_rfl
  simp only [plcF, tk37, h, Option.map_some]; rfl
theorem tk38 : tk Try.prog 38 = .struct [(36, 0), (2, 3), (2, 4)] := by kernel_rfl
theorem csz38 : csz Try.prog 38 = some 5 := by kernel_rfl
theorem bsz38 : bsz Try.prog 38 = some 56 := by kernel_rfl
theorem zro38 : zro Try.prog 38 = some (.agg [.str [], .int .i64 0, .str [], .int .i64 0, .int .i64 0]) := by kernel_rfl
theorem agg38 : aggT Try.prog 38 = some true := by kernel_rfl
theorem plc38 : plcF Try.prog 38 = some (plcL [(0, 3), (3, 1), (4, 1)]) := by
  have h : plc Try.prog 38 = some [(0, 3), (3, 1), (4, 1)] := by kernel_rfl
  simp only [plcF, tk38, h, Option.map_some]; rfl
theorem tk46 : tk Try.prog 46 = .slice 92 := by kernel_rfl
theorem csz46 : csz Try.prog 46 = some 1 := by kernel_rfl
theorem bsz46 : bsz Try.prog 46 = some 24 := by kernel_rfl
theorem zro46 : zro Try.prog 46 = some (.nil) := by kernel_rfl
theorem agg46 : aggT Try.prog 46 = some false := by kernel_rfl
theorem tk47 : tk Try.prog 47 = .struct [(2, 0), (2, 1), (2, 2), (2, 3), (46, 4)] := by kernel_rfl
theorem csz47 : csz Try.prog 47 = some 5 := by kernel_rfl
theorem bsz47 : bsz Try.prog 47 = some 56 := by kernel_rfl
theorem zro47 : zro Try.prog 47 = some (.agg [.int .i64 0, .int .i64 0, .int .i64 0, .int .i64 0, .nil]) := by kernel_rfl
theorem agg47 : aggT Try.prog 47 = some true := by kernel_rfl
theorem plc47 : plcF Try.prog 47 = some (plcL [(0, 1), (1, 1), (2, 1), (3, 1), (4, 1)]) := by
  have h : plc Try.prog 47 = some [(0, 1), (1, 1), (2, 1), (3, 1), (4, 1)] := by kernel_rfl
  simp only [plcF, tk47, h, Option.map_some]; rfl
theorem tk48 : tk Try.prog 48 = .struct [(2, 0), (2, 1), (2, 2), (2, 3), (46, 4)] := by kernel_rfl
theorem csz48 : csz Try.prog 48 = some 5 := by kernel_rfl
theorem bsz48 : bsz Try.prog 48 = some 56 := by kernel_rfl
theorem zro48 : zro Try.prog 48 = some (.agg [.int .i64 0, .int .i64 0, .int .i64 0, .int .i64 0, .nil]) := by kernel_rfl
theorem agg48 : aggT Try.prog 48 = some true := by kernel_rfl
theorem plc48 : plcF Try.prog 48 = some (plcL [(0, 1), (1, 1), (2, 1), (3, 1), (4, 1)]) := by
  have h : plc Try.prog 48 = some [(0, 1), (1, 1), (2, 1), (3, 1), (4, 1)] := by kernel_rfl
  simp only [plcF, tk48, h, Option.map_some]; rfl
theorem tk51 : tk Try.prog 51 = .slice 77 := by kernel_rfl
theorem csz51 : csz Try.prog 51 = some 1 := by kernel_rfl
theorem bsz51 : bsz Try.prog 51 = some 24 := by kernel_rfl
theorem zro51 : zro Try.prog 51 = some (.nil) := by kernel_rfl
theorem agg51 : aggT Try.prog 51 = some false := by kernel_rfl
theorem tk52 : tk Try.prog 52 = .struct [(2, 0), (2, 1), (2, 2), (2, 3), (51, 4)] := by kernel_rfl
theorem csz52 : csz Try.prog 52 = some 5 := by kernel_rfl
theorem bsz52 : bsz Try.prog 52 = some 56 := by kernel_rfl
theorem zro52 : zro Try.prog 52 = some (.agg [.int .i64 0, .int .i64 0, .int .i64 0, .int .i64 0, .nil]) := by kernel_rfl
theorem agg52 : aggT Try.prog 52 = some true := by kernel_rfl
theorem plc52 : plcF Try.prog 52 = some (plcL [(0, 1), (1, 1), (2, 1), (3, 1), (4, 1)]) := by
  have h : plc Try.prog 52 = some [(0, 1), (1, 1), (2, 1), (3, 1), (4, 1)] := by kernel_rfl
  simp only [plcF, tk52, h, Option.map_some]; rfl
theorem tk53 : tk Try.prog 53 = .struct [(2, 0), (2, 1), (2, 2), (2, 3), (51, 4)] := by kernel_rfl
theorem csz53 : csz Try.prog 53 = some 5 := by kernel_rfl
theorem bsz53 : bsz Try.prog 53 = some 56 := by kernel_rfl
theorem zro53 : zro Try.prog 53 = some (.agg [.int .i64 0, .int .i64 0, .int .i64 0, .int .i64 0, .nil]) := by kernel_rfl
theorem agg53 : aggT Try.prog 53 = some true := by kernel_rfl
theorem plc53 : plcF Try.prog 53 = some (plcL [(0, 1), (1, 1), (2, 1), (3, 1), (4, 1)]) := by
  have h : plc Try.prog 53 = some [(0, 1), (1, 1), (2, 1), (3, 1), (4, 1)] := by kernel_rfl
  simp only [plcF, tk53, h, Option.map_some]; rfl
theorem tk56 : tk Try.prog 56 = .struct [(34, 0), (2, 3), (2, 4)] := by kernel_rfl
theorem csz56 : csz Try.prog 56 = some 5 := by kernel_rfl
theorem bsz56 : bsz Try.prog 56 = some 56 := by kernel_rfl
theorem zro56 : zro Try.prog 56 = some (.agg [.str [], .int .i64 0, .str [], .int .i64 0, .int .i64 0]) := by kernel_rfl
theorem agg56 : aggT Try.prog 56 = some true := by kernel_rfl
theorem plc56 : plcF Try.prog 56 = some (plcL [(0, 3), (3, 1), (4, 1)]) := by
  have h : plc Try.prog 56 = some [(0, 3), (3, 1), (4, 1)] := by kernel_rfl
  simp only [plcF, tk56, h, Option.map_some]; rfl
theorem tk57 : tk Try.prog 57 = .struct [(34, 0), (2, 3), (2, 4)] := by kernel_rfl
theorem csz57 : csz Try.prog 57 = some 5 := by kernel_rfl
theorem bsz57 : bsz Try.prog 57 = some 56 := by kernel_rfl
theorem zro57 : zro Try.prog 57 = some (.agg [.str [], .int .i64 0, .str [], .int .i64 0, .int .i64 0]) := by kernel_rfl
theorem agg57 : aggT Try.prog 57 = some true := by kernel_rfl
theorem plc57 : plcF Try.prog 57 = some (plcL [(0, 3), (3, 1), (4, 1)]) := by
  have h : plc Try.prog 57 = some [(0, 3), (3, 1), (4, 1)] := by kernel_rfl
  simp only [plcF, tk57, h, Option.map_some]; rfl
theorem tk64 : tk Try.prog 64 = .ptr 25 := by kernel_rfl
theorem csz64 : csz Try.prog 64 = some 1 := by kernel_rfl
theorem bsz64 : bsz Try.prog 64 = some 8 := by kernel_rfl
theorem agg64 : aggT Try.prog 64 = some false := by kernel_rfl
theorem tk70 : tk Try.prog 70 = .ptr 36 := by kernel_rfl
theorem csz70 : csz Try.prog 70 = some 1 := by kernel_rfl
theorem bsz70 : bsz Try.prog 70 = some 8 := by kernel_rfl
theorem agg70 : aggT Try.prog 70 = some false := by kernel_rfl
theorem tk76 : tk Try.prog 76 = .struct [(2, 0), (9, 1), (9, 2)] := by kernel_rfl
theorem csz76 : csz Try.prog 76 = some 3 := by kernel_rfl
theorem bsz76 : bsz Try.prog 76 = some 40 := by kernel_rfl
theorem zro76 : zro Try.prog 76 = some (.agg [.int .i64 0, .str [], .str []]) := by kernel_rfl
theorem agg76 : aggT Try.prog 76 = some true := by kernel_rfl
theorem plc76 : plcF Try.prog 76 = some (plcL [(0, 1), (1, 1), (2, 1)]) := by
  have h : plc Try.prog 76 = some [(0, 1), (1, 1), (2, 1)] := by kernel_rfl
  simp only [plcF, tk76, h, Option.map_some]; rfl
theorem eqt76 : eqTypes Try.prog 76 = true := by kernel_rfl
theorem tk77 : tk Try.prog 77 = .struct [(2, 0), (9, 1), (9, 2)] := by kernel_rfl
theorem csz77 : csz Try.prog 77 = some 3 := by kernel_rfl
theorem bsz77 : bsz Try.prog 77 = some 40 := by kernel_rfl
theorem zro77 : zro Try.prog 77 = some (.agg [.int .i64 0, .str [], .str []]) := by kernel_rfl
theorem agg77 : aggT Try.prog 77 = some true := by kernel_rfl
theorem plc77 : plcF Try.prog 77 = some (plcL [(0, 1), (1, 1), (2, 1)]) := by
  have h : plc Try.prog 77 = some [(0, 1), (1, 1), (2, 1)] := by kernel_rfl
  simp only [plcF, tk77, h, Option.map_some]; rfl
theorem eqt77 : eqTypes Try.prog 77 = true := by kernel_rfl
theorem tk81 : tk Try.prog 81 = .ptr 38 := by kernel_rfl
theorem csz81 : csz Try.prog 81 = some 1 := by kernel_rfl
theorem bsz81 : bsz Try.prog 81 = some 8 := by kernel_rfl
theorem agg81 : aggT Try.prog 81 = some false := by kernel_rfl
theorem tk86 : tk Try.prog 86 = .slice 5 := by kernel_rfl
theorem csz86 : csz Try.prog 86 = some 1 := by kernel_rfl
theorem bsz86 : bsz Try.prog 86 = some 24 := by kernel_rfl
theorem zro86 : zro Try.prog 86 = some (.nil) := by kernel_rfl
theorem agg86 : aggT Try.prog 86 = some false := by kernel_rfl
theorem tk92 : tk Try.prog 92 = .struct [(2, 0), (9, 1), (9, 2)] := by kernel_rfl
theorem csz92 : csz Try.prog 92 = some 3 := by kernel_rfl
theorem bsz92 : bsz Try.prog 92 = some 40 := by kernel_rfl
theorem zro92 : zro Try.prog 92 = some (.agg [.int .i64 0, .str [], .str []]) := by kernel_rfl
theorem agg92 : aggT Try.prog 92 = some true := by kernel_rfl
theorem plc92 : plcF Try.prog 92 = some (plcL [(0, 1), (1, 1), (2, 1)]) := by
  have h : plc Try.prog 92 = some [(0, 1), (1, 1), (2, 1)] := by kernel_rfl
  simp only [plcF, tk92, h, Option.map_some]; rfl
theorem eqt92 : eqTypes Try.prog 92 = true := by kernel_rfl
theorem tk98 : tk Try.prog 98 = .int .u64 := by kernel_rfl
theorem csz98 : csz Try.prog 98 = some 1 := by kernel_rfl
theorem bsz98 : bsz Try.prog 98 = some 8 := by kernel_rfl
theorem zro98 : zro Try.prog 98 = some (.int .u64 0) := by kernel_rfl
theorem agg98 : aggT Try.prog 98 = some false := by kernel_rfl
theorem tk100 : tk Try.prog 100 = .struct [(17, 0), (17, 1), (17, 2), (9, 3)] := by kernel_rfl
theorem csz100 : csz Try.prog 100 = some 4 := by kernel_rfl
theorem bsz100 : bsz Try.prog 100 = some 40 := by kernel_rfl
theorem agg100 : aggT Try.prog 100 = some true := by kernel_rfl
theorem plc100 : plcF Try.prog 100 = some (plcL [(0, 1), (1, 1), (2, 1), (3, 1)]) := by
  have h : plc Try.prog 100 = some [(0, 1), (1, 1), (2, 1), (3, 1)] := by kernel_rfl
  simp only [plcF, tk100, h, Option.map_some]; rfl
theorem tk101 : tk Try.prog 101 = .struct [(17, 0), (17, 1), (17, 2), (9, 3)] := by kernel_rfl
theorem csz101 : csz Try.prog 101 = some 4 := by kernel_rfl
theorem bsz101 : bsz Try.prog 101 = some 40 := by kernel_rfl
theorem agg101 : aggT Try.prog 101 = some true := by kernel_rfl
theorem plc101 : plcF Try.prog 101 = some (plcL [(0, 1), (1, 1), (2, 1), (3, 1)]) := by
  have h : plc Try.prog 101 = some [(0, 1), (1, 1), (2, 1), (3, 1)] := by kernel_rfl
  simp only [plcF, tk101, h, Option.map_some]; rfl
theorem tk102 : tk Try.prog 102 = .arr 0 16 := by kernel_rfl
theorem csz102 : csz Try.prog 102 = some 0 := by kernel_rfl
theorem bsz102 : bsz Try.prog 102 = some 0 := by kernel_rfl
theorem zro102 : zro Try.prog 102 = some (.agg []) := by kernel_rfl
theorem agg102 : aggT Try.prog 102 = some true := by kernel_rfl
theorem plc102 : plcF Try.prog 102 = some (plcM 1) := by
  simp only [plcF, tk102, csz16, Option.map_some]; rfl
theorem tk103 : tk Try.prog 103 = .struct [(102, 0)] := by kernel_rfl
theorem csz103 : csz Try.prog 103 = some 0 := by kernel_rfl
theorem bsz103 : bsz Try.prog 103 = some 0 := by kernel_rfl
theorem zro103 : zro Try.prog 103 = some (.agg []) := by kernel_rfl
theorem agg103 : aggT Try.prog 103 = some true := by kernel_rfl
theorem plc103 : plcF Try.prog 103 = some (plcL [(0, 0)]) := by
  have h : plc Try.prog 103 = some [(0, 0)] := by kernel_rfl
  simp only [plcF, tk103, h, Option.map_some]; rfl
theorem tk104 : tk Try.prog 104 = .struct [(102, 0)] := by kernel_rfl
theorem csz104 : csz Try.prog 104 = some 0 := by kernel_rfl
theorem bsz104 : bsz Try.prog 104 = some 0 := by kernel_rfl
theorem zro104 : zro Try.prog 104 = some (.agg []) := by kernel_rfl
theorem agg104 : aggT Try.prog 104 = some true := by kernel_rfl
theorem plc104 : plcF Try.prog 104 = some (plcL [(0, 0)]) := by
  have h : plc Try.prog 104 = some [(0, 0)] := by kernel_rfl
  simp only [plcF, tk104, h, Option.map_some]; rfl
theorem tk106 : tk Try.prog 106 = .int .u32 := by kernel_rfl
theorem csz106 : csz Try.prog 106 = some 1 := by kernel_rfl
theorem bsz106 : bsz Try.prog 106 = some 4 := by kernel_rfl
theorem zro106 : zro Try.prog 106 = some (.int .u32 0) := by kernel_rfl
theorem agg106 : aggT Try.prog 106 = some false := by kernel_rfl
theorem tk107 : tk Try.prog 107 = .int .u8 := by kernel_rfl
theorem csz107 : csz Try.prog 107 = some 1 := by kernel_rfl
theorem bsz107 : bsz Try.prog 107 = some 1 := by kernel_rfl
theorem zro107 : zro Try.prog 107 = some (.int .u8 0) := by kernel_rfl
theorem agg107 : aggT Try.prog 107 = some false := by kernel_rfl
theorem tk108 : tk Try.prog 108 = .int .u8 := by kernel_rfl
theorem csz108 : csz Try.prog 108 = some 1 := by kernel_rfl
theorem bsz108 : bsz Try.prog 108 = some 1 := by kernel_rfl
theorem zro108 : zro Try.prog 108 = some (.int .u8 0) := by kernel_rfl
theorem agg108 : aggT Try.prog 108 = some false := by kernel_rfl
theorem tk110 : tk Try.prog 110 = .ptr 5 := by kernel_rfl
theorem csz110 : csz Try.prog 110 = some 1 := by kernel_rfl
theorem bsz110 : bsz Try.prog 110 = some 8 := by kernel_rfl
theorem agg110 : aggT Try.prog 110 = some false := by kernel_rfl
theorem tk111 : tk Try.prog 111 = .int .i32 := by kernel_rfl
theorem csz111 : csz Try.prog 111 = some 1 := by kernel_rfl
theorem bsz111 : bsz Try.prog 111 = some 4 := by kernel_rfl
theorem zro111 : zro Try.prog 111 = some (.int .i32 0) := by kernel_rfl
theorem agg111 : aggT Try.prog 111 = some false := by kernel_rfl
theorem tk112 : tk Try.prog 112 = .int .i32 := by kernel_rfl
theorem csz112 : csz Try.prog 112 = some 1 := by kernel_rfl
theorem bsz112 : bsz Try.prog 112 = some 4 := by kernel_rfl
theorem zro112 : zro Try.prog 112 = some (.int .i32 0) := by kernel_rfl
theorem agg112 : aggT Try.prog 112 = some false := by kernel_rfl
theorem tk113 : tk Try.prog 113 = .struct [(12, 0), (12, 1), (106, 2), (107, 3), (5, 4), (5, 5), (108, 6), (109, 7), (110, 8), (111, 9), (112, 10)] := by kernel_rfl
theorem csz113 : csz Try.prog 113 = some 11 := by kernel_rfl
theorem bsz113 : bsz Try.prog 113 = some 48 := by kernel_rfl
theorem agg113 : aggT Try.prog 113 = some true := by kernel_rfl
theorem tk114 : tk Try.prog 114 = .struct [(12, 0), (12, 1), (106, 2), (107, 3), (5, 4), (5, 5), (108, 6), (109, 7), (110, 8), (111, 9), (112, 10)] := by kernel_rfl
theorem csz114 : csz Try.prog 114 = some 11 := by kernel_rfl
theorem bsz114 : bsz Try.prog 114 = some 48 := by kernel_rfl
theorem agg114 : aggT Try.prog 114 = some true := by kernel_rfl
theorem tk118 : tk Try.prog 118 = .struct [(3, 0), (3, 1)] := by kernel_rfl
theorem csz118 : csz Try.prog 118 = some 2 := by kernel_rfl
theorem bsz118 : bsz Try.prog 118 = some 16 := by kernel_rfl
theorem zro118 : zro Try.prog 118 = some (.agg [.int .i64 0, .int .i64 0]) := by kernel_rfl
theorem agg118 : aggT Try.prog 118 = some true := by kernel_rfl
theorem plc118 : plcF Try.prog 118 = some (plcL [(0, 1), (1, 1)]) := by
  have h : plc Try.prog 118 = some [(0, 1), (1, 1)] := by kernel_rfl
  simp only [plcF, tk118, h, Option.map_some]; rfl
theorem eqt118 : eqTypes Try.prog 118 = true := by kernel_rfl
theorem tk119 : tk Try.prog 119 = .struct [(3, 0), (3, 1)] := by kernel_rfl
theorem csz119 : csz Try.prog 119 = some 2 := by kernel_rfl
theorem bsz119 : bsz Try.prog 119 = some 16 := by kernel_rfl
theorem zro119 : zro Try.prog 119 = some (.agg [.int .i64 0, .int .i64 0]) := by kernel_rfl
theorem agg119 : aggT Try.prog 119 = some true := by kernel_rfl
theorem plc119 : plcF Try.prog 119 = some (plcL [(0, 1), (1, 1)]) := by
  have h : plc Try.prog 119 = some [(0, 1), (1, 1)] := by kernel_rfl
  simp only [plcF, tk119, h, Option.map_some]; rfl
theorem eqt119 : eqTypes Try.prog 119 = true := by kernel_rfl
attribute [go_sem] tk2 csz2 bsz2 zro2 agg2 tk3 csz3 bsz3 zro3 agg3 tk4 csz4 bsz4 zro4 agg4 tk5 csz5 bsz5 zro5 agg5 tk6 csz6 bsz6 zro6 agg6 tk7 csz7 bsz7 zro7 agg7 plc7 eqt7 tk8 csz8 bsz8 zro8 agg8 plc8 eqt8 tk9 csz9 bsz9 zro9 agg9 tk10 csz10 bsz10 zro10 agg10 tk11 csz11 bsz11 zro11 agg11 tk12 csz12 bsz12 zro12 agg12 tk13 csz13 bsz13 zro13 agg13 plc13 tk14 csz14 bsz14 zro14 agg14 plc14 tk15 csz15 bsz15 agg15 tk16 csz16 bsz16 agg16 tk17 csz17 bsz17 agg17 tk18 csz18 bsz18 agg18 plc18 tk19 csz19 bsz19 agg19 plc19 tk21 csz21 bsz21 zro21 agg21 tk22 csz22 bsz22 zro22 agg22 plc22 eqt22 tk23 csz23 bsz23 zro23 agg23 plc23 eqt23 tk25 csz25 bsz25 zro25 agg25 plc25 eqt25 tk28 csz28 bsz28 zro28 agg28 tk33 csz33 bsz33 zro33 agg33 plc33 eqt33 tk34 csz34 bsz34 zro34 agg34 plc34 eqt34 tk36 csz36 bsz36 zro36 agg36 plc36 eqt36 tk37 csz37 bsz37 zro37 agg37 plc37 tk38 csz38 bsz38 zro38 agg38 plc38 tk46 csz46 bsz46 zro46 agg46 tk47 csz47 bsz47 zro47 agg47 plc47 tk48 csz48 bsz48 zro48 agg48 plc48 tk51 csz51 bsz51 zro51 agg51 tk52 csz52 bsz52 zro52 agg52 plc52 tk53 csz53 bsz53 zro53 agg53 plc53 tk56 csz56 bsz56 zro56 agg56 plc56 tk57 csz57 bsz57 zro57 agg57 plc57 tk64 csz64 bsz64 agg64 tk70 csz70 bsz70 agg70 tk76 csz76 bsz76 zro76 agg76 plc76 eqt76 tk77 csz77 bsz77 zro77 agg77 plc77 eqt77 tk81 csz81 bsz81 agg81 tk86 csz86 bsz86 zro86 agg86 tk92 csz92 bsz92 zro92 agg92 plc92 eqt92 tk98 csz98 bsz98 zro98 agg98 tk100 csz100 bsz100 agg100 plc100 tk101 csz101 bsz101 agg101 plc101 tk102 csz102 bsz102 zro102 agg102 plc102 tk103 csz103 bsz103 zro103 agg103 plc103 tk104 csz104 bsz104 zro104 agg104 plc104 tk106 csz106 bsz106 zro106 agg106 tk107 csz107 bsz107 zro107 agg107 tk108 csz108 bsz108 zro108 agg108 tk110 csz110 bsz110 agg110 tk111 csz111 bsz111 zro111 agg111 tk112 csz112 bsz112 zro112 agg112 tk113 csz113 bsz113 agg113 tk114 csz114 bsz114 agg114 tk118 csz118 bsz118 zro118 agg118 plc118 eqt118 tk119 csz119 bsz119 zro119 agg119 plc119 eqt119
end Go.Ab
