/- What the types of the program are; each fact is checked. Conditions: none. -/
import Derived.Test.YtkpcbgoljkccbaaAb2
import Derived.Test.YtkpcbgoljkccbaaProg
namespace Go.Ab
open Go.RowKit Go.Proofs
theorem mo : Try.prog.follows .mixedOrders = true := by kernel_rfl
theorem tk2 : tk Try.prog 2 = .int .i64 := by kernel_rfl
theorem csz2 : csz Try.prog 2 = some 1 := by kernel_rfl
theorem bsz2 : bsz Try.prog 2 = some 8 := by kernel_rfl
theorem zro2 : zro Try.prog 2 = some (.int .i64 0) := by kernel_rfl
theorem agg2 : aggT Try.prog 2 = some false := by kernel_rfl
theorem tk3 : tk Try.prog 3 = .int .i64 := by kernel_rfl
theorem csz3 : csz Try.prog 3 = some 1 := by kernel_rfl
theorem bsz3 : bsz Try.prog 3 = some 8 := by kernel_rfl
theorem zro3 : zro Try.prog 3 = some (.int .i64 0) := by kernel_rfl
theorem agg3 : aggT Try.prog 3 = some false := by kernel_rfl
theorem tk4 : tk Try.prog 4 = .bool := by kernel_rfl
theorem csz4 : csz Try.prog 4 = some 1 := by kernel_rfl
theorem bsz4 : bsz Try.prog 4 = some 1 := by kernel_rfl
theorem zro4 : zro Try.prog 4 = some (.bool false) := by kernel_rfl
theorem agg4 : aggT Try.prog 4 = some false := by kernel_rfl
theorem tk5 : tk Try.prog 5 = .int .u8 := by kernel_rfl
theorem csz5 : csz Try.prog 5 = some 1 := by kernel_rfl
theorem bsz5 : bsz Try.prog 5 = some 1 := by kernel_rfl
theorem zro5 : zro Try.prog 5 = some (.int .u8 0) := by kernel_rfl
theorem agg5 : aggT Try.prog 5 = some false := by kernel_rfl
theorem tk6 : tk Try.prog 6 = .int .u8 := by kernel_rfl
theorem csz6 : csz Try.prog 6 = some 1 := by kernel_rfl
theorem bsz6 : bsz Try.prog 6 = some 1 := by kernel_rfl
theorem zro6 : zro Try.prog 6 = some (.int .u8 0) := by kernel_rfl
theorem agg6 : aggT Try.prog 6 = some false := by kernel_rfl
theorem tk7 : tk Try.prog 7 = .struct [(2, 0), (3, 1), (4, 2), (6, 3)] := by kernel_rfl
theorem csz7 : csz Try.prog 7 = some 4 := by kernel_rfl
theorem bsz7 : bsz Try.prog 7 = some 24 := by kernel_rfl
theorem zro7 : zro Try.prog 7 = some (.agg [.int .i64 0, .int .i64 0, .bool false, .int .u8 0]) := by kernel_rfl
theorem agg7 : aggT Try.prog 7 = some true := by kernel_rfl
theorem plc7 : plcF Try.prog 7 = some (plcL [(0, 1), (1, 1), (2, 1), (3, 1)]) := by
  have h : plc Try.prog 7 = some [(0, 1), (1, 1), (2, 1), (3, 1)] := by kernel_rfl
  simp only [plcF, tk7, h, Option.map_some]; rfl
theorem eqt7 : eqTypes Try.prog 7 = true := by kernel_rfl
theorem tk8 : tk Try.prog 8 = .struct [(2, 0), (3, 1), (4, 2), (6, 3)] := by kernel_rfl
theorem csz8 : csz Try.prog 8 = some 4 := by kernel_rfl
theorem bsz8 : bsz Try.prog 8 = some 24 := by kernel_rfl
theorem zro8 : zro Try.prog 8 = some (.agg [.int .i64 0, .int .i64 0, .bool false, .int .u8 0]) := by kernel_rfl
theorem agg8 : aggT Try.prog 8 = some true := by kernel_rfl
theorem plc8 : plcF Try.prog 8 = some (plcL [(0, 1), (1, 1), (2, 1), (3, 1)]) := by
  have h : plc Try.prog 8 = some [(0, 1), (1, 1), (2, 1), (3, 1)] := by kernel_rfl
  simp only [plcF, tk8, h, Option.map_some]; rfl
theorem eqt8 : eqTypes Try.prog 8 = true := by kernel_rfl
theorem tk9 : tk Try.prog 9 = .str := by kernel_rfl
theorem csz9 : csz Try.prog 9 = some 1 := by kernel_rfl
theorem bsz9 : bsz Try.prog 9 = some 16 := by kernel_rfl
theorem zro9 : zro Try.prog 9 = some (.str []) := by kernel_rfl
theorem agg9 : aggT Try.prog 9 = some false := by kernel_rfl
theorem tk10 : tk Try.prog 10 = .str := by kernel_rfl
theorem csz10 : csz Try.prog 10 = some 1 := by kernel_rfl
theorem bsz10 : bsz Try.prog 10 = some 16 := by kernel_rfl
theorem zro10 : zro Try.prog 10 = some (.str []) := by kernel_rfl
theorem agg10 : aggT Try.prog 10 = some false := by kernel_rfl
theorem tk11 : tk Try.prog 11 = .str := by kernel_rfl
theorem csz11 : csz Try.prog 11 = some 1 := by kernel_rfl
theorem bsz11 : bsz Try.prog 11 = some 16 := by kernel_rfl
theorem zro11 : zro Try.prog 11 = some (.str []) := by kernel_rfl
theorem agg11 : aggT Try.prog 11 = some false := by kernel_rfl
theorem tk12 : tk Try.prog 12 = .int .u64 := by kernel_rfl
theorem csz12 : csz Try.prog 12 = some 1 := by kernel_rfl
theorem bsz12 : bsz Try.prog 12 = some 8 := by kernel_rfl
theorem zro12 : zro Try.prog 12 = some (.int .u64 0) := by kernel_rfl
theorem agg12 : aggT Try.prog 12 = some false := by kernel_rfl
theorem tk13 : tk Try.prog 13 = .struct [(9, 0), (12, 1)] := by kernel_rfl
theorem csz13 : csz Try.prog 13 = some 2 := by kernel_rfl
theorem bsz13 : bsz Try.prog 13 = some 24 := by kernel_rfl
theorem zro13 : zro Try.prog 13 = some (.agg [.str [], .int .u64 0]) := by kernel_rfl
theorem agg13 : aggT Try.prog 13 = some true := by kernel_rfl
theorem plc13 : plcF Try.prog 13 = some (plcL [(0, 1), (1, 1)]) := by
  have h : plc Try.prog 13 = some [(0, 1), (1, 1)] := by kernel_rfl
  simp only [plcF, tk13, h, Option.map_some]; rfl
theorem tk14 : tk Try.prog 14 = .struct [(9, 0), (12, 1)] := by kernel_rfl
theorem csz14 : csz Try.prog 14 = some 2 := by kernel_rfl
theorem bsz14 : bsz Try.prog 14 = some 24 := by kernel_rfl
theorem zro14 : zro Try.prog 14 = some (.agg [.str [], .int .u64 0]) := by kernel_rfl
theorem agg14 : aggT Try.prog 14 = some true := by kernel_rfl
theorem plc14 : plcF Try.prog 14 = some (plcL [(0, 1), (1, 1)]) := by
  have h : plc Try.prog 14 = some [(0, 1), (1, 1)] := by kernel_rfl
  simp only [plcF, tk14, h, Option.map_some]; rfl
theorem tk15 : tk Try.prog 15 = .ptr 170 := by kernel_rfl
theorem csz15 : csz Try.prog 15 = some 1 := by kernel_rfl
theorem bsz15 : bsz Try.prog 15 = some 8 := by kernel_rfl
theorem agg15 : aggT Try.prog 15 = some false := by kernel_rfl
theorem tk16 : tk Try.prog 16 = .ptr 173 := by kernel_rfl
theorem csz16 : csz Try.prog 16 = some 1 := by kernel_rfl
theorem bsz16 : bsz Try.prog 16 = some 8 := by kernel_rfl
theorem agg16 : aggT Try.prog 16 = some false := by kernel_rfl
theorem tk17 : tk Try.prog 17 = .ptr 180 := by kernel_rfl
theorem csz17 : csz Try.prog 17 = some 1 := by kernel_rfl
theorem bsz17 : bsz Try.prog 17 = some 8 := by kernel_rfl
theorem agg17 : aggT Try.prog 17 = some false := by kernel_rfl
theorem tk18 : tk Try.prog 18 = .struct [(17, 0)] := by kernel_rfl
theorem csz18 : csz Try.prog 18 = some 1 := by kernel_rfl
theorem bsz18 : bsz Try.prog 18 = some 8 := by kernel_rfl
theorem agg18 : aggT Try.prog 18 = some true := by kernel_rfl
theorem plc18 : plcF Try.prog 18 = some (plcL [(0, 1)]) := by
  have h : plc Try.prog 18 = some [(0, 1)] := by kernel_rfl
  simp only [plcF, tk18, h, Option.map_some]; rfl
theorem tk19 : tk Try.prog 19 = .struct [(17, 0)] := by kernel_rfl
theorem csz19 : csz Try.prog 19 = some 1 := by kernel_rfl
theorem bsz19 : bsz Try.prog 19 = some 8 := by kernel_rfl
theorem agg19 : aggT Try.prog 19 = some true := by kernel_rfl
theorem plc19 : plcF Try.prog 19 = some (plcL [(0, 1)]) := by
  have h : plc Try.prog 19 = some [(0, 1)] := by kernel_rfl
  simp only [plcF, tk19, h, Option.map_some]; rfl
theorem tk21 : tk Try.prog 21 = .int .i32 := by kernel_rfl
theorem csz21 : csz Try.prog 21 = some 1 := by kernel_rfl
theorem bsz21 : bsz Try.prog 21 = some 4 := by kernel_rfl
theorem zro21 : zro Try.prog 21 = some (.int .i32 0) := by kernel_rfl
theorem agg21 : aggT Try.prog 21 = some false := by kernel_rfl
theorem tk22 : tk Try.prog 22 = .slice 9 := by kernel_rfl
theorem csz22 : csz Try.prog 22 = some 1 := by kernel_rfl
theorem bsz22 : bsz Try.prog 22 = some 24 := by kernel_rfl
theorem zro22 : zro Try.prog 22 = some (.nil) := by kernel_rfl
theorem agg22 : aggT Try.prog 22 = some false := by kernel_rfl
theorem tk27 : tk Try.prog 27 = .slice 124 := by kernel_rfl
theorem csz27 : csz Try.prog 27 = some 1 := by kernel_rfl
theorem bsz27 : bsz Try.prog 27 = some 24 := by kernel_rfl
theorem zro27 : zro Try.prog 27 = some (.nil) := by kernel_rfl
theorem agg27 : aggT Try.prog 27 = some false := by kernel_rfl
theorem tk28 : tk Try.prog 28 = .struct [(2, 0), (2, 1), (2, 2), (2, 3), (27, 4)] := by kernel_rfl
theorem csz28 : csz Try.prog 28 = some 5 := by kernel_rfl
theorem bsz28 : bsz Try.prog 28 = some 56 := by kernel_rfl
theorem zro28 : zro Try.prog 28 = some (.agg [.int .i64 0, .int .i64 0, .int .i64 0, .int .i64 0, .nil]) := by kernel_rfl
theorem agg28 : aggT Try.prog 28 = some true := by kernel_rfl
theorem plc28 : plcF Try.prog 28 = some (plcL [(0, 1), (1, 1), (2, 1), (3, 1), (4, 1)]) := by
  have h : plc Try.prog 28 = some [(0, 1), (1, 1), (2, 1), (3, 1), (4, 1)] := by kernel_rfl
  simp only [plcF, tk28, h, Option.map_some]; rfl
theorem tk29 : tk Try.prog 29 = .struct [(2, 0), (2, 1), (2, 2), (2, 3), (27, 4)] := by kernel_rfl
theorem csz29 : csz Try.prog 29 = some 5 := by kernel_rfl
theorem bsz29 : bsz Try.prog 29 = some 56 := by kernel_rfl
theorem zro29 : zro Try.prog 29 = some (.agg [.int .i64 0, .int .i64 0, .int .i64 0, .int .i64 0, .nil]) := by kernel_rfl
theorem agg29 : aggT Try.prog 29 = some true := by kernel_rfl
theorem plc29 : plcF Try.prog 29 = some (plcL [(0, 1), (1, 1), (2, 1), (3, 1), (4, 1)]) := by
  have h : plc Try.prog 29 = some [(0, 1), (1, 1), (2, 1), (3, 1), (4, 1)] := by kernel_rfl
  simp only [plcF, tk29, h, Option.map_some]; rfl
theorem tk32 : tk Try.prog 32 = .slice 83 := by kernel_rfl
theorem csz32 : csz Try.prog 32 = some 1 := by kernel_rfl
theorem bsz32 : bsz Try.prog 32 = some 24 := by kernel_rfl
theorem zro32 : zro Try.prog 32 = some (.nil) := by kernel_rfl
theorem agg32 : aggT Try.prog 32 = some false := by kernel_rfl
theorem tk33 : tk Try.prog 33 = .struct [(2, 0), (2, 1), (2, 2), (2, 3), (32, 4)] := by kernel_rfl
theorem csz33 : csz Try.prog 33 = some 5 := by kernel_rfl
theorem bsz33 : bsz Try.prog 33 = some 56 := by kernel_rfl
theorem zro33 : zro Try.prog 33 = some (.agg [.int .i64 0, .int .i64 0, .int .i64 0, .int .i64 0, .nil]) := by kernel_rfl
theorem agg33 : aggT Try.prog 33 = some true := by kernel_rfl
theorem plc33 : plcF Try.prog 33 = some (plcL [(0, 1), (1, 1), (2, 1), (3, 1), (4, 1)]) := by
  have h : plc Try.prog 33 = some [(0, 1), (1, 1), (2, 1), (3, 1), (4, 1)] := by kernel_rfl
  simp only [plcF, tk33, h, Option.map_some]; rfl
theorem tk34 : tk Try.prog 34 = .struct [(2, 0), (2, 1), (2, 2), (2, 3), (32, 4)] := by kernel_rfl
theorem csz34 : csz Try.prog 34 = some 5 := by kernel_rfl
theorem bsz34 : bsz Try.prog 34 = some 56 := by kernel_rfl
theorem zro34 : zro Try.prog 34 = some (.agg [.int .i64 0, .int .i64 0, .int .i64 0, .int .i64 0, .nil]) := by kernel_rfl
theorem agg34 : aggT Try.prog 34 = some true := by kernel_rfl
theorem plc34 : plcF Try.prog 34 = some (plcL [(0, 1), (1, 1), (2, 1), (3, 1), (4, 1)]) := by
  have h : plc Try.prog 34 = some [(0, 1), (1, 1), (2, 1), (3, 1), (4, 1)] := by kernel_rfl
  simp only [plcF, tk34, h, Option.map_some]; rfl
theorem tk37 : tk Try.prog 37 = .struct [(9, 0), (2, 1), (9, 2)] := by kernel_rfl
theorem csz37 : csz Try.prog 37 = some 3 := by kernel_rfl
theorem bsz37 : bsz Try.prog 37 = some 40 := by kernel_rfl
theorem zro37 : zro Try.prog 37 = some (.agg [.str [], .int .i64 0, .str []]) := by kernel_rfl
theorem agg37 : aggT Try.prog 37 = some true := by kernel_rfl
theorem plc37 : plcF Try.prog 37 = some (plcL [(0, 1), (1, 1), (2, 1)]) := by
  have h : plc Try.prog 37 = some [(0, 1), (1, 1), (2, 1)] := by kernel_rfl
  simp only [plcF, tk37, h, Option.map_some]; rfl
theorem eqt37 : eqTypes Try.prog 37 = true := by kernel_rfl
theorem tk38 : tk Try.prog 38 = .struct [(9, 0), (2, 1), (9, 2)] := by kernel_rfl
theorem csz38 : csz Try.prog 38 = some 3 := by kernel_rfl
theorem bsz38 : bsz Try.prog 38 = some 40 := by kernel_rfl
theorem zro38 : zro Try.prog 38 = some (.agg [.str [], .int .i64 0, .str []]) := by kernel_rfl
theorem agg38 : aggT Try.prog 38 = some true := by kernel_rfl
theorem plc38 : plcF Try.prog 38 = some (plcL [(0, 1), (1, 1), (2, 1)]) := by
  have h : plc Try.prog 38 = some [(0, 1), (1, 1), (2, 1)] := by kernel_rfl
  simp only [plcF, tk38, h, Option.map_some]; rfl
theorem eqt38 : eqTypes Try.prog 38 = true := by kernel_rfl
theorem tk39 : tk Try.prog 39 = .struct [(38, 0), (2, 3), (2, 4)] := by kernel_rfl
theorem csz39 : csz Try.prog 39 = some 5 := by kernel_rfl
theorem bsz39 : bsz Try.prog 39 = some 56 := by kernel_rfl
theorem zro39 : zro Try.prog 39 = some (.agg [.str [], .int .i64 0, .str [], .int .i64 0, .int .i64 0]) := by kernel_rfl
theorem agg39 : aggT Try.prog 39 = some true := by kernel_rfl
theorem plc39 : plcF Try.prog 39 = some (plcL [(0, 3), (3, 1), (4, 1)]) := by
  have h : plc Try.prog 39 = some [(0, 3), (3, 1), (4, 1)] := by kernel_rfl
  simp only [plcF, tk39, h, Option.map_some]; rfl
theorem tk40 : tk Try.prog 40 = .struct [(38, 0), (2, 3), (2, 4)] := by kernel_rfl
theorem csz40 : csz Try.prog 40 = some 5 := by kernel_rfl
theorem bsz40 : bsz Try.prog 40 = some 56 := by kernel_rfl
theorem zro40 : zro Try.prog 40 = some (.agg [.str [], .int .i64 0, .str [], .int .i64 0, .int .i64 0]) := by kernel_rfl
theorem agg40 : aggT Try.prog 40 = some true := by kernel_rfl
theorem plc40 : plcF Try.prog 40 = some (plcL [(0, 3), (3, 1), (4, 1)]) := by
  have h : plc Try.prog 40 = some [(0, 3), (3, 1), (4, 1)] := by kernel_rfl
  simp only [plcF, tk40, h, Option.map_some]; rfl
theorem tk44 : tk Try.prog 44 = .struct [(9, 0), (2, 1), (9, 2)] := by kernel_rfl
theorem csz44 : csz Try.prog 44 = some 3 := by kernel_rfl
theorem bsz44 : bsz Try.prog 44 = some 40 := by kernel_rfl
theorem zro44 : zro Try.prog 44 = some (.agg [.str [], .int .i64 0, .str []]) := by kernel_rfl
theorem agg44 : aggT Try.prog 44 = some true := by kernel_rfl
theorem plc44 : plcF Try.prog 44 = some (plcL [(0, 1), (1, 1), (2, 1)]) := by
  have h : plc Try.prog 44 = some [(0, 1), (1, 1), (2, 1)] := by kernel_rfl
  simp only [plcF, tk44, h, Option.map_some]; rfl
theorem eqt44 : eqTypes Try.prog 44 = true := by kernel_rfl
theorem tk45 : tk Try.prog 45 = .struct [(44, 0), (2, 3), (2, 4)] := by kernel_rfl
theorem csz45 : csz Try.prog 45 = some 5 := by kernel_rfl
theorem bsz45 : bsz Try.prog 45 = some 56 := by kernel_rfl
theorem zro45 : zro Try.prog 45 = some (.agg [.str [], .int .i64 0, .str [], .int .i64 0, .int .i64 0]) := by kernel_rfl
theorem agg45 : aggT Try.prog 45 = some true := by kernel_rfl
theorem plc45 : plcF Try.prog 45 = some (plcL [(0, 3), (3, 1), (4, 1)]) := by
  have h : plc Try.prog 45 = some [(0, 3), (3, 1), (4, 1)] := by kernel_rfl
  simp only [plcF, tk45, h, Option.map_some]; rfl
theorem tk46 : tk Try.prog 46 = .struct [(44, 0), (2, 3), (2, 4)] := by kernel_rfl
theorem csz46 : csz Try.prog 46 = some 5 := by kernel_rfl
theorem bsz46 : bsz Try.prog 46 = some 56 := by kernel_rfl
theorem zro46 : zro Try.prog 46 = some (.agg [.str [], .int .i64 0, .str [], .int .i64 0, .int .i64 0]) := by kernel_rfl
theorem agg46 : aggT Try.prog 46 = some true := by kernel_rfl
theorem plc46 : plcF Try.prog 46 = some (plcL [(0, 3), (3, 1), (4, 1)]) := by
  have h : plc Try.prog 46 = some [(0, 3), (3, 1), (4, 1)] := by kernel_rfl
  simp only [plcF, tk46, h, Option.map_some]; rfl
theorem tk58 : tk Try.prog 58 = .slice 151 := by kernel_rfl
theorem csz58 : csz Try.prog 58 = some 1 := by kernel_rfl
theorem bsz58 : bsz Try.prog 58 = some 24 := by kernel_rfl
theorem zro58 : zro Try.prog 58 = some (.nil) := by kernel_rfl
theorem agg58 : aggT Try.prog 58 = some false := by kernel_rfl
theorem tk59 : tk Try.prog 59 = .struct [(2, 0), (2, 1), (58, 2)] := by kernel_rfl
theorem csz59 : csz Try.prog 59 = some 3 := by kernel_rfl
theorem bsz59 : bsz Try.prog 59 = some 40 := by kernel_rfl
theorem zro59 : zro Try.prog 59 = some (.agg [.int .i64 0, .int .i64 0, .nil]) := by kernel_rfl
theorem agg59 : aggT Try.prog 59 = some true := by kernel_rfl
theorem plc59 : plcF Try.prog 59 = some (plcL [(0, 1), (1, 1), (2, 1)]) := by
  have h : plc Try.prog 59 = some [(0, 1), (1, 1), (2, 1)] := by kernel_rfl
  simp only [plcF, tk59, h, Option.map_some]; rfl
theorem tk60 : tk Try.prog 60 = .struct [(2, 0), (2, 1), (58, 2)] := by kernel_rfl
theorem csz60 : csz Try.prog 60 = some 3 := by kernel_rfl
theorem bsz60 : bsz Try.prog 60 = some 40 := by kernel_rfl
theorem zro60 : zro Try.prog 60 = some (.agg [.int .i64 0, .int .i64 0, .nil]) := by kernel_rfl
theorem agg60 : aggT Try.prog 60 = some true := by kernel_rfl
theorem plc60 : plcF Try.prog 60 = some (plcL [(0, 1), (1, 1), (2, 1)]) := by
  have h : plc Try.prog 60 = some [(0, 1), (1, 1), (2, 1)] := by kernel_rfl
  simp only [plcF, tk60, h, Option.map_some]; rfl
theorem tk61 : tk Try.prog 61 = .struct [(60, 0), (9, 3), (2, 4), (22, 5), (9, 6), (9, 7)] := by kernel_rfl
theorem csz61 : csz Try.prog 61 = some 8 := by kernel_rfl
theorem bsz61 : bsz Try.prog 61 = some 120 := by kernel_rfl
theorem zro61 : zro Try.prog 61 = some (.agg [.int .i64 0, .int .i64 0, .nil, .str [], .int .i64 0, .nil, .str [], .str []]) := by kernel_rfl
theorem agg61 : aggT Try.prog 61 = some true := by kernel_rfl
theorem plc61 : plcF Try.prog 61 = some (plcL [(0, 3), (3, 1), (4, 1), (5, 1), (6, 1), (7, 1)]) := by
  have h : plc Try.prog 61 = some [(0, 3), (3, 1), (4, 1), (5, 1), (6, 1), (7, 1)] := by kernel_rfl
  simp only [plcF, tk61, h, Option.map_some]; rfl
theorem tk62 : tk Try.prog 62 = .struct [(60, 0), (9, 3), (2, 4), (22, 5), (9, 6), (9, 7)] := by kernel_rfl
theorem csz62 : csz Try.prog 62 = some 8 := by kernel_rfl
theorem bsz62 : bsz Try.prog 62 = some 120 := by kernel_rfl
theorem zro62 : zro Try.prog 62 = some (.agg [.int .i64 0, .int .i64 0, .nil, .str [], .int .i64 0, .nil, .str [], .str []]) := by kernel_rfl
theorem agg62 : aggT Try.prog 62 = some true := by kernel_rfl
theorem plc62 : plcF Try.prog 62 = some (plcL [(0, 3), (3, 1), (4, 1), (5, 1), (6, 1), (7, 1)]) := by
  have h : plc Try.prog 62 = some [(0, 3), (3, 1), (4, 1), (5, 1), (6, 1), (7, 1)] := by kernel_rfl
  simp only [plcF, tk62, h, Option.map_some]; rfl
theorem tk70 : tk Try.prog 70 = .slice 163 := by kernel_rfl
theorem csz70 : csz Try.prog 70 = some 1 := by kernel_rfl
theorem bsz70 : bsz Try.prog 70 = some 24 := by kernel_rfl
theorem zro70 : zro Try.prog 70 = some (.nil) := by kernel_rfl
theorem agg70 : aggT Try.prog 70 = some false := by kernel_rfl
theorem tk71 : tk Try.prog 71 = .struct [(2, 0), (2, 1), (70, 2)] := by kernel_rfl
theorem csz71 : csz Try.prog 71 = some 3 := by kernel_rfl
theorem bsz71 : bsz Try.prog 71 = some 40 := by kernel_rfl
theorem zro71 : zro Try.prog 71 = some (.agg [.int .i64 0, .int .i64 0, .nil]) := by kernel_rfl
theorem agg71 : aggT Try.prog 71 = some true := by kernel_rfl
theorem plc71 : plcF Try.prog 71 = some (plcL [(0, 1), (1, 1), (2, 1)]) := by
  have h : plc Try.prog 71 = some [(0, 1), (1, 1), (2, 1)] := by kernel_rfl
  simp only [plcF, tk71, h, Option.map_some]; rfl
theorem tk72 : tk Try.prog 72 = .struct [(2, 0), (2, 1), (70, 2)] := by kernel_rfl
theorem csz72 : csz Try.prog 72 = some 3 := by kernel_rfl
theorem bsz72 : bsz Try.prog 72 = some 40 := by kernel_rfl
theorem zro72 : zro Try.prog 72 = some (.agg [.int .i64 0, .int .i64 0, .nil]) := by kernel_rfl
theorem agg72 : aggT Try.prog 72 = some true := by kernel_rfl
theorem plc72 : plcF Try.prog 72 = some (plcL [(0, 1), (1, 1), (2, 1)]) := by
  have h : plc Try.prog 72 = some [(0, 1), (1, 1), (2, 1)] := by kernel_rfl
  simp only [plcF, tk72, h, Option.map_some]; rfl
theorem tk73 : tk Try.prog 73 = .struct [(72, 0), (9, 3), (2, 4), (22, 5), (9, 6), (9, 7)] := by kernel_rfl
theorem csz73 : csz Try.prog 73 = some 8 := by kernel_rfl
theorem bsz73 : bsz Try.prog 73 = some 120 := by kernel_rfl
theorem zro73 : zro Try.prog 73 = some (.agg [.int .i64 0, .int .i64 0, .nil, .str [], .int .i64 0, .nil, .str [], .str []]) := by kernel_rfl
theorem agg73 : aggT Try.prog 73 = some true := by kernel_rfl
theorem plc73 : plcF Try.prog 73 = some (plcL [(0, 3), (3, 1), (4, 1), (5, 1), (6, 1), (7, 1)]) := by
  have h : plc Try.prog 73 = some [(0, 3), (3, 1), (4, 1), (5, 1), (6, 1), (7, 1)] := by kernel_rfl
  simp only [plcF, tk73, h, Option.map_some]; rfl
theorem tk74 : tk Try.prog 74 = .struct [(72, 0), (9, 3), (2, 4), (22, 5), (9, 6), (9, 7)] := by kernel_rfl
theorem csz74 : csz Try.prog 74 = some 8 := by kernel_rfl
theorem bsz74 : bsz Try.prog 74 = some 120 := by kernel_rfl
theorem zro74 : zro Try.prog 74 = some (.agg [.int .i64 0, .int .i64 0, .nil, .str [], .int .i64 0, .nil, .str [], .str []]) := by kernel_rfl
theorem agg74 : aggT Try.prog 74 = some true := by kernel_rfl
theorem plc74 : plcF Try.prog 74 = some (plcL [(0, 3), (3, 1), (4, 1), (5, 1), (6, 1), (7, 1)]) := by
  have h : plc Try.prog 74 = some [(0, 3), (3, 1), (4, 1), (5, 1), (6, 1), (7, 1)] := by kernel_rfl
  simp only [plcF, tk74, h, Option.map_some]; rfl
theorem tk82 : tk Try.prog 82 = .struct [(2, 0), (9, 1), (9, 2)] := by kernel_rfl
theorem csz82 : csz Try.prog 82 = some 3 := by kernel_rfl
theorem bsz82 : bsz Try.prog 82 = some 40 := by kernel_rfl
theorem zro82 : zro Try.prog 82 = some (.agg [.int .i64 0, .str [], .str []]) := by kernel_rfl
theorem agg82 : aggT Try.prog 82 = some true := by kernel_rfl
theorem plc82 : plcF Try.prog 82 = some (plcL [(0, 1), (1, 1), (2, 1)]) := by
  have h : plc Try.prog 82 = some [(0, 1), (1, 1), (2, 1)] := by kernel_rfl
  simp only [plcF, tk82, h, Option.map_some]; rfl
theorem eqt82 : eqTypes Try.prog 82 = true := by kernel_rfl
theorem tk83 : tk Try.prog 83 = .struct [(2, 0), (9, 1), (9, 2)] := by kernel_rfl
theorem csz83 : csz Try.prog 83 = some 3 := by kernel_rfl
theorem bsz83 : bsz Try.prog 83 = some 40 := by kernel_rfl
theorem zro83 : zro Try.prog 83 = some (.agg [.int .i64 0, .str [], .str []]) := by kernel_rfl
theorem agg83 : aggT Try.prog 83 = some true := by kernel_rfl
theorem plc83 : plcF Try.prog 83 = some (plcL [(0, 1), (1, 1), (2, 1)]) := by
  have h : plc Try.prog 83 = some [(0, 1), (1, 1), (2, 1)] := by kernel_rfl
  simp only [plcF, tk83, h, Option.map_some]; rfl
theorem eqt83 : eqTypes Try.prog 83 = true := by kernel_rfl
theorem tk88 : tk Try.prog 88 = .ptr 46 := by kernel_rfl
theorem csz88 : csz Try.prog 88 = some 1 := by kernel_rfl
theorem bsz88 : bsz Try.prog 88 = some 8 := by kernel_rfl
theorem agg88 : aggT Try.prog 88 = some false := by kernel_rfl
theorem tk89 : tk Try.prog 89 = .slice 5 := by kernel_rfl
theorem csz89 : csz Try.prog 89 = some 1 := by kernel_rfl
theorem bsz89 : bsz Try.prog 89 = some 24 := by kernel_rfl
theorem zro89 : zro Try.prog 89 = some (.nil) := by kernel_rfl
theorem agg89 : aggT Try.prog 89 = some false := by kernel_rfl
theorem tk91 : tk Try.prog 91 = .ptr 44 := by kernel_rfl
theorem csz91 : csz Try.prog 91 = some 1 := by kernel_rfl
theorem bsz91 : bsz Try.prog 91 = some 8 := by kernel_rfl
theorem agg91 : aggT Try.prog 91 = some false := by kernel_rfl
theorem tk100 : tk Try.prog 100 = .ptr 34 := by kernel_rfl
theorem csz100 : csz Try.prog 100 = some 1 := by kernel_rfl
theorem bsz100 : bsz Try.prog 100 = some 8 := by kernel_rfl
theorem agg100 : aggT Try.prog 100 = some false := by kernel_rfl
theorem tk113 : tk Try.prog 113 = .ptr 115 := by kernel_rfl
theorem csz113 : csz Try.prog 113 = some 1 := by kernel_rfl
theorem bsz113 : bsz Try.prog 113 = some 8 := by kernel_rfl
theorem agg113 : aggT Try.prog 113 = some false := by kernel_rfl
theorem tk114 : tk Try.prog 114 = .struct [(113, 0), (89, 1)] := by kernel_rfl
theorem csz114 : csz Try.prog 114 = some 2 := by kernel_rfl
theorem bsz114 : bsz Try.prog 114 = some 32 := by kernel_rfl
theorem agg114 : aggT Try.prog 114 = some true := by kernel_rfl
theorem plc114 : plcF Try.prog 114 = some (plcL [(0, 1), (1, 1)]) := by
  have h : plc Try.prog 114 = some [(0, 1), (1, 1)] := by kernel_rfl
  simp only [plcF, tk114, h, Option.map_some]; rfl
theorem tk115 : tk Try.prog 115 = .struct [(113, 0), (89, 1)] := by kernel_rfl
theorem csz115 : csz Try.prog 115 = some 2 := by kernel_rfl
theorem bsz115 : bsz Try.prog 115 = some 32 := by kernel_rfl
theorem agg115 : aggT Try.prog 115 = some true := by kernel_rfl
theorem plc115 : plcF Try.prog 115 = some (plcL [(0, 1), (1, 1)]) := by
  have h : plc Try.prog 115 = some [(0, 1), (1, 1)] := by kernel_rfl
  simp only [plcF, tk115, h, Option.map_some]; rfl
theorem tk124 : tk Try.prog 124 = .struct [(2, 0), (9, 1), (9, 2)] := by kernel_rfl
theorem csz124 : csz Try.prog 124 = some 3 := by kernel_rfl
theorem bsz124 : bsz Try.prog 124 = some 40 := by kernel_rfl
theorem zro124 : zro Try.prog 124 = some (.agg [.int .i64 0, .str [], .str []]) := by kernel_rfl
theorem agg124 : aggT Try.prog 124 = some true := by kernel_rfl
theorem plc124 : plcF Try.prog 124 = some (plcL [(0, 1), (1, 1), (2, 1)]) := by
  have h : plc Try.prog 124 = some [(0, 1), (1, 1), (2, 1)] := by kernel_rfl
  simp only [plcF, tk124, h, Option.map_some]; rfl
theorem eqt124 : eqTypes Try.prog 124 = true := by kernel_rfl
theorem tk130 : tk Try.prog 130 = .int .u64 := by kernel_rfl
theorem csz130 : csz Try.prog 130 = some 1 := by kernel_rfl
theorem bsz130 : bsz Try.prog 130 = some 8 := by kernel_rfl
theorem zro130 : zro Try.prog 130 = some (.int .u64 0) := by kernel_rfl
theorem agg130 : aggT Try.prog 130 = some false := by kernel_rfl
theorem tk135 : tk Try.prog 135 = .ptr 83 := by kernel_rfl
theorem csz135 : csz Try.prog 135 = some 1 := by kernel_rfl
theorem bsz135 : bsz Try.prog 135 = some 8 := by kernel_rfl
theorem agg135 : aggT Try.prog 135 = some false := by kernel_rfl
theorem tk140 : tk Try.prog 140 = .slice 142 := by kernel_rfl
theorem csz140 : csz Try.prog 140 = some 1 := by kernel_rfl
theorem bsz140 : bsz Try.prog 140 = some 24 := by kernel_rfl
theorem zro140 : zro Try.prog 140 = some (.nil) := by kernel_rfl
theorem agg140 : aggT Try.prog 140 = some false := by kernel_rfl
theorem tk141 : tk Try.prog 141 = .struct [(2, 0), (2, 1), (4, 2)] := by kernel_rfl
theorem csz141 : csz Try.prog 141 = some 3 := by kernel_rfl
theorem bsz141 : bsz Try.prog 141 = some 24 := by kernel_rfl
theorem zro141 : zro Try.prog 141 = some (.agg [.int .i64 0, .int .i64 0, .bool false]) := by kernel_rfl
theorem agg141 : aggT Try.prog 141 = some true := by kernel_rfl
theorem plc141 : plcF Try.prog 141 = some (plcL [(0, 1), (1, 1), (2, 1)]) := by
  have h : plc Try.prog 141 = some [(0, 1), (1, 1), (2, 1)] := by kernel_rfl
  simp only [plcF, tk141, h, Option.map_some]; rfl
theorem eqt141 : eqTypes Try.prog 141 = true := by kernel_rfl
theorem tk142 : tk Try.prog 142 = .struct [(2, 0), (2, 1), (4, 2)] := by kernel_rfl
theorem csz142 : csz Try.prog 142 = some 3 := by kernel_rfl
theorem bsz142 : bsz Try.prog 142 = some 24 := by kernel_rfl
theorem zro142 : zro Try.prog 142 = some (.agg [.int .i64 0, .int .i64 0, .bool false]) := by kernel_rfl
theorem agg142 : aggT Try.prog 142 = some true := by kernel_rfl
theorem plc142 : plcF Try.prog 142 = some (plcL [(0, 1), (1, 1), (2, 1)]) := by
  have h : plc Try.prog 142 = some [(0, 1), (1, 1), (2, 1)] := by kernel_rfl
  simp only [plcF, tk142, h, Option.map_some]; rfl
theorem eqt142 : eqTypes Try.prog 142 = true := by kernel_rfl
theorem tk144 : tk Try.prog 144 = .slice 147 := by kernel_rfl
theorem csz144 : csz Try.prog 144 = some 1 := by kernel_rfl
theorem bsz144 : bsz Try.prog 144 = some 24 := by kernel_rfl
theorem zro144 : zro Try.prog 144 = some (.nil) := by kernel_rfl
theorem agg144 : aggT Try.prog 144 = some false := by kernel_rfl
theorem tk146 : tk Try.prog 146 = .struct [(3, 0), (3, 1)] := by kernel_rfl
theorem csz146 : csz Try.prog 146 = some 2 := by kernel_rfl
theorem bsz146 : bsz Try.prog 146 = some 16 := by kernel_rfl
theorem zro146 : zro Try.prog 146 = some (.agg [.int .i64 0, .int .i64 0]) := by kernel_rfl
theorem agg146 : aggT Try.prog 146 = some true := by kernel_rfl
theorem plc146 : plcF Try.prog 146 = some (plcL [(0, 1), (1, 1)]) := by
  have h : plc Try.prog 146 = some [(0, 1), (1, 1)] := by kernel_rfl
  simp only [plcF, tk146, h, Option.map_some]; rfl
theorem eqt146 : eqTypes Try.prog 146 = true := by kernel_rfl
theorem tk147 : tk Try.prog 147 = .struct [(3, 0), (3, 1)] := by kernel_rfl
theorem csz147 : csz Try.prog 147 = some 2 := by kernel_rfl
theorem bsz147 : bsz Try.prog 147 = some 16 := by kernel_rfl
theorem zro147 : zro Try.prog 147 = some (.agg [.int .i64 0, .int .i64 0]) := by kernel_rfl
theorem agg147 : aggT Try.prog 147 = some true := by kernel_rfl
theorem plc147 : plcF Try.prog 147 = some (plcL [(0, 1), (1, 1)]) := by
  have h : plc Try.prog 147 = some [(0, 1), (1, 1)] := by kernel_rfl
  simp only [plcF, tk147, h, Option.map_some]; rfl
theorem eqt147 : eqTypes Try.prog 147 = true := by kernel_rfl
theorem tk150 : tk Try.prog 150 = .struct [(2, 0), (2, 1), (2, 2), (2, 3), (9, 4), (4, 5), (4, 6), (4, 7)] := by kernel_rfl
theorem csz150 : csz Try.prog 150 = some 8 := by kernel_rfl
theorem bsz150 : bsz Try.prog 150 = some 56 := by kernel_rfl
theorem zro150 : zro Try.prog 150 = some (.agg [.int .i64 0, .int .i64 0, .int .i64 0, .int .i64 0, .str [], .bool false, .bool false, .bool false]) := by kernel_rfl
theorem agg150 : aggT Try.prog 150 = some true := by kernel_rfl
theorem plc150 : plcF Try.prog 150 = some (plcL [(0, 1), (1, 1), (2, 1), (3, 1), (4, 1), (5, 1), (6, 1), (7, 1)]) := by
  have h : plc Try.prog 150 = some [(0, 1), (1, 1), (2, 1), (3, 1), (4, 1), (5, 1), (6, 1), (7, 1)] := by kernel_rfl
  simp only [plcF, tk150, h, Option.map_some]; rfl
theorem eqt150 : eqTypes Try.prog 150 = true := by kernel_rfl
theorem tk151 : tk Try.prog 151 = .struct [(2, 0), (2, 1), (2, 2), (2, 3), (9, 4), (4, 5), (4, 6), (4, 7)] := by kernel_rfl
theorem csz151 : csz Try.prog 151 = some 8 := by kernel_rfl
theorem bsz151 : bsz Try.prog 151 = some 56 := by kernel_rfl
theorem zro151 : zro Try.prog 151 = some (.agg [.int .i64 0, .int .i64 0, .int .i64 0, .int .i64 0, .str [], .bool false, .bool false, .bool false]) := by kernel_rfl
theorem agg151 : aggT Try.prog 151 = some true := by kernel_rfl
theorem plc151 : plcF Try.prog 151 = some (plcL [(0, 1), (1, 1), (2, 1), (3, 1), (4, 1), (5, 1), (6, 1), (7, 1)]) := by
  have h : plc Try.prog 151 = some [(0, 1), (1, 1), (2, 1), (3, 1), (4, 1), (5, 1), (6, 1), (7, 1)] := by kernel_rfl
  simp only [plcF, tk151, h, Option.map_some]; rfl
theorem eqt151 : eqTypes Try.prog 151 = true := by kernel_rfl
theorem tk153 : tk Try.prog 153 = .ptr 5 := by kernel_rfl
theorem csz153 : csz Try.prog 153 = some 1 := by kernel_rfl
theorem bsz153 : bsz Try.prog 153 = some 8 := by kernel_rfl
theorem agg153 : aggT Try.prog 153 = some false := by kernel_rfl
theorem tk155 : tk Try.prog 155 = .int .u32 := by kernel_rfl
theorem csz155 : csz Try.prog 155 = some 1 := by kernel_rfl
theorem bsz155 : bsz Try.prog 155 = some 4 := by kernel_rfl
theorem zro155 : zro Try.prog 155 = some (.int .u32 0) := by kernel_rfl
theorem agg155 : aggT Try.prog 155 = some false := by kernel_rfl
theorem tk158 : tk Try.prog 158 = .int .u64 := by kernel_rfl
theorem csz158 : csz Try.prog 158 = some 1 := by kernel_rfl
theorem bsz158 : bsz Try.prog 158 = some 8 := by kernel_rfl
theorem zro158 : zro Try.prog 158 = some (.int .u64 0) := by kernel_rfl
theorem agg158 : aggT Try.prog 158 = some false := by kernel_rfl
theorem tk163 : tk Try.prog 163 = .struct [(2, 0), (2, 1), (2, 2), (2, 3), (9, 4), (4, 5), (4, 6), (4, 7)] := by kernel_rfl
theorem csz163 : csz Try.prog 163 = some 8 := by kernel_rfl
theorem bsz163 : bsz Try.prog 163 = some 56 := by kernel_rfl
theorem zro163 : zro Try.prog 163 = some (.agg [.int .i64 0, .int .i64 0, .int .i64 0, .int .i64 0, .str [], .bool false, .bool false, .bool false]) := by kernel_rfl
theorem agg163 : aggT Try.prog 163 = some true := by kernel_rfl
theorem plc163 : plcF Try.prog 163 = some (plcL [(0, 1), (1, 1), (2, 1), (3, 1), (4, 1), (5, 1), (6, 1), (7, 1)]) := by
  have h : plc Try.prog 163 = some [(0, 1), (1, 1), (2, 1), (3, 1), (4, 1), (5, 1), (6, 1), (7, 1)] := by kernel_rfl
  simp only [plcF, tk163, h, Option.map_some]; rfl
theorem eqt163 : eqTypes Try.prog 163 = true := by kernel_rfl
theorem tk169 : tk Try.prog 169 = .struct [(17, 0), (17, 1), (17, 2), (9, 3)] := by kernel_rfl
theorem csz169 : csz Try.prog 169 = some 4 := by kernel_rfl
theorem bsz169 : bsz Try.prog 169 = some 40 := by kernel_rfl
theorem agg169 : aggT Try.prog 169 = some true := by kernel_rfl
theorem plc169 : plcF Try.prog 169 = some (plcL [(0, 1), (1, 1), (2, 1), (3, 1)]) := by
  have h : plc Try.prog 169 = some [(0, 1), (1, 1), (2, 1), (3, 1)] := by kernel_rfl
  simp only [plcF, tk169, h, Option.map_some]; rfl
theorem tk170 : tk Try.prog 170 = .struct [(17, 0), (17, 1), (17, 2), (9, 3)] := by kernel_rfl
theorem csz170 : csz Try.prog 170 = some 4 := by kernel_rfl
theorem bsz170 : bsz Try.prog 170 = some 40 := by kernel_rfl
theorem agg170 : aggT Try.prog 170 = some true := by kernel_rfl
theorem plc170 : plcF Try.prog 170 = some (plcL [(0, 1), (1, 1), (2, 1), (3, 1)]) := by
  have h : plc Try.prog 170 = some [(0, 1), (1, 1), (2, 1), (3, 1)] := by kernel_rfl
  simp only [plcF, tk170, h, Option.map_some]; rfl
theorem tk171 : tk Try.prog 171 = .arr 0 16 := by kernel_rfl
theorem csz171 : csz Try.prog 171 = some 0 := by kernel_rfl
theorem bsz171 : bsz Try.prog 171 = some 0 := by kernel_rfl
theorem zro171 : zro Try.prog 171 = some (.agg []) := by kernel_rfl
theorem agg171 : aggT Try.prog 171 = some true := by kernel_rfl
theorem plc171 : plcF Try.prog 171 = some (plcM 1) := by
  simp only [plcF, tk171, csz16, Option.map_some]; rfl
theorem tk172 : tk Try.prog 172 = .struct [(171, 0)] := by kernel_rfl
theorem csz172 : csz Try.prog 172 = some 0 := by kernel_rfl
theorem bsz172 : bsz Try.prog 172 = some 0 := by kernel_rfl
theorem zro172 : zro Try.prog 172 = some (.agg []) := by kernel_rfl
theorem agg172 : aggT Try.prog 172 = some true := by kernel_rfl
theorem plc172 : plcF Try.prog 172 = some (plcL [(0, 0)]) := by
  have h : plc Try.prog 172 = some [(0, 0)] := by kernel_rfl
  simp only [plcF, tk172, h, Option.map_some]; rfl
theorem tk173 : tk Try.prog 173 = .struct [(171, 0)] := by kernel_rfl
theorem csz173 : csz Try.prog 173 = some 0 := by kernel_rfl
theorem bsz173 : bsz Try.prog 173 = some 0 := by kernel_rfl
theorem zro173 : zro Try.prog 173 = some (.agg []) := by kernel_rfl
theorem agg173 : aggT Try.prog 173 = some true := by kernel_rfl
theorem plc173 : plcF Try.prog 173 = some (plcL [(0, 0)]) := by
  have h : plc Try.prog 173 = some [(0, 0)] := by kernel_rfl
  simp only [plcF, tk173, h, Option.map_some]; rfl
theorem tk174 : tk Try.prog 174 = .int .u8 := by kernel_rfl
theorem csz174 : csz Try.prog 174 = some 1 := by kernel_rfl
theorem bsz174 : bsz Try.prog 174 = some 1 := by kernel_rfl
theorem zro174 : zro Try.prog 174 = some (.int .u8 0) := by kernel_rfl
theorem agg174 : aggT Try.prog 174 = some false := by kernel_rfl
theorem tk175 : tk Try.prog 175 = .int .u8 := by kernel_rfl
theorem csz175 : csz Try.prog 175 = some 1 := by kernel_rfl
theorem bsz175 : bsz Try.prog 175 = some 1 := by kernel_rfl
theorem zro175 : zro Try.prog 175 = some (.int .u8 0) := by kernel_rfl
theorem agg175 : aggT Try.prog 175 = some false := by kernel_rfl
theorem tk177 : tk Try.prog 177 = .int .i32 := by kernel_rfl
theorem csz177 : csz Try.prog 177 = some 1 := by kernel_rfl
theorem bsz177 : bsz Try.prog 177 = some 4 := by kernel_rfl
theorem zro177 : zro Try.prog 177 = some (.int .i32 0) := by kernel_rfl
theorem agg177 : aggT Try.prog 177 = some false := by kernel_rfl
theorem tk178 : tk Try.prog 178 = .int .i32 := by kernel_rfl
theorem csz178 : csz Try.prog 178 = some 1 := by kernel_rfl
theorem bsz178 : bsz Try.prog 178 = some 4 := by kernel_rfl
theorem zro178 : zro Try.prog 178 = some (.int .i32 0) := by kernel_rfl
theorem agg178 : aggT Try.prog 178 = some false := by kernel_rfl
theorem tk179 : tk Try.prog 179 = .struct [(12, 0), (12, 1), (155, 2), (174, 3), (5, 4), (5, 5), (175, 6), (176, 7), (153, 8), (177, 9), (178, 10)] := by kernel_rfl
theorem csz179 : csz Try.prog 179 = some 11 := by kernel_rfl
theorem bsz179 : bsz Try.prog 179 = some 48 := by kernel_rfl
theorem agg179 : aggT Try.prog 179 = some true := by kernel_rfl
theorem tk180 : tk Try.prog 180 = .struct [(12, 0), (12, 1), (155, 2), (174, 3), (5, 4), (5, 5), (175, 6), (176, 7), (153, 8), (177, 9), (178, 10)] := by kernel_rfl
theorem csz180 : csz Try.prog 180 = some 11 := by kernel_rfl
theorem bsz180 : bsz Try.prog 180 = some 48 := by kernel_rfl
theorem agg180 : aggT Try.prog 180 = some true := by kernel_rfl
attribute [go_sem] tk2 csz2 bsz2 zro2 agg2 tk3 csz3 bsz3 zro3 agg3 tk4 csz4 bsz4 zro4 agg4 tk5 csz5 bsz5 zro5 agg5 tk6 csz6 bsz6 zro6 agg6 tk7 csz7 bsz7 zro7 agg7 plc7 eqt7 tk8 csz8 bsz8 zro8 agg8 plc8 eqt8 tk9 csz9 bsz9 zro9 agg9 tk10 csz10 bsz10 zro10 agg10 tk11 csz11 bsz11 zro11 agg11 tk12 csz12 bsz12 zro12 agg12 tk13 csz13 bsz13 zro13 agg13 plc13 tk14 csz14 bsz14 zro14 agg14 plc14 tk15 csz15 bsz15 agg15 tk16 csz16 bsz16 agg16 tk17 csz17 bsz17 agg17 tk18 csz18 bsz18 agg18 plc18 tk19 csz19 bsz19 agg19 plc19 tk21 csz21 bsz21 zro21 agg21 tk22 csz22 bsz22 zro22 agg22 tk27 csz27 bsz27 zro27 agg27 tk28 csz28 bsz28 zro28 agg28 plc28 tk29 csz29 bsz29 zro29 agg29 plc29 tk32 csz32 bsz32 zro32 agg32 tk33 csz33 bsz33 zro33 agg33 plc33 tk34 csz34 bsz34 zro34 agg34 plc34 tk37 csz37 bsz37 zro37 agg37 plc37 eqt37 tk38 csz38 bsz38 zro38 agg38 plc38 eqt38 tk39 csz39 bsz39 zro39 agg39 plc39 tk40 csz40 bsz40 zro40 agg40 plc40 tk44 csz44 bsz44 zro44 agg44 plc44 eqt44 tk45 csz45 bsz45 zro45 agg45 plc45 tk46 csz46 bsz46 zro46 agg46 plc46 tk58 csz58 bsz58 zro58 agg58 tk59 csz59 bsz59 zro59 agg59 plc59 tk60 csz60 bsz60 zro60 agg60 plc60 tk61 csz61 bsz61 zro61 agg61 plc61 tk62 csz62 bsz62 zro62 agg62 plc62 tk70 csz70 bsz70 zro70 agg70 tk71 csz71 bsz71 zro71 agg71 plc71 tk72 csz72 bsz72 zro72 agg72 plc72 tk73 csz73 bsz73 zro73 agg73 plc73 tk74 csz74 bsz74 zro74 agg74 plc74 tk82 csz82 bsz82 zro82 agg82 plc82 eqt82 tk83 csz83 bsz83 zro83 agg83 plc83 eqt83 tk88 csz88 bsz88 agg88 tk89 csz89 bsz89 zro89 agg89 tk91 csz91 bsz91 agg91 tk100 csz100 bsz100 agg100 tk113 csz113 bsz113 agg113 tk114 csz114 bsz114 agg114 plc114 tk115 csz115 bsz115 agg115 plc115 tk124 csz124 bsz124 zro124 agg124 plc124 eqt124 tk130 csz130 bsz130 zro130 agg130 tk135 csz135 bsz135 agg135 tk140 csz140 bsz140 zro140 agg140 tk141 csz141 bsz141 zro141 agg141 plc141 eqt141 tk142 csz142 bsz142 zro142 agg142 plc142 eqt142 tk144 csz144 bsz144 zro144 agg144 tk146 csz146 bsz146 zro146 agg146 plc146 eqt146 tk147 csz147 bsz147 zro147 agg147 plc147 eqt147 tk150 csz150 bsz150 zro150 agg150 plc150 eqt150 tk151 csz151 bsz151 zro151 agg151 plc151 eqt151 tk153 csz153 bsz153 agg153 tk155 csz155 bsz155 zro155 agg155 tk158 csz158 bsz158 zro158 agg158 tk163 csz163 bsz163 zro163 agg163 plc163 eqt163 tk169 csz169 bsz169 agg169 plc169 tk170 csz170 bsz170 agg170 plc170 tk171 csz171 bsz171 zro171 agg171 plc171 tk172 csz172 bsz172 zro172 agg172 plc172 tk173 csz173 bsz173 zro173 agg173 plc173 tk174 csz174 bsz174 zro174 agg174 tk175 csz175 bsz175 zro175 agg175 tk177 csz177 bsz177 zro177 agg177 tk178 csz178 bsz178 zro178 agg178 tk179 csz179 bsz179 agg179 tk180 csz180 bsz180 agg180
end Go.Ab
