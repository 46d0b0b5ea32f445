/- env.plain: the walk. -/
import Derived.Test.YtekkjieoikgpmaaE19
set_option linter.unusedVariables false
set_option linter.unusedSimpArgs false
namespace Go.Proofs.Ytekkjieoikgpmaa
open Go.RowKit
set_option maxHeartbeats 3200000
set_option maxRecDepth 1000000

theorem plain_any (x : EnvT) (u v : Value) (w : World) : Calls Try.prog 47 #[.agg (x.cells u v).toArray] w fun e w' => e = .returned (.agg (plainCs x).toArray) ∧ Below w.heap.size w w' := by
  go_enter Try.func47, Try.ntmps47
  go_upto_region 1 with fail
  refine wp_two ?_
  intro W0 hb hz hbel hsz
  have z0 : W0.cell? ⟨w.heap.size, 0, none⟩ = some (.int .i64 x.font) := by rw [blk_cell hb]; rfl
  have z1 : W0.cell? ⟨w.heap.size, 1, none⟩ = some (.int .i64 x.lastFont) := by rw [blk_cell hb]; rfl
  have z2 : W0.cell? ⟨w.heap.size, 2, none⟩ = some (.int .i64 x.size) := by rw [blk_cell hb]; rfl
  have z3 : W0.cell? ⟨w.heap.size, 3, none⟩ = some (.int .i64 x.lastSize) := by rw [blk_cell hb]; rfl
  have z4 : W0.cell? ⟨w.heap.size, 4, none⟩ = some (.int .i64 x.vs) := by rw [blk_cell hb]; rfl
  have z5 : W0.cell? ⟨w.heap.size, 5, none⟩ = some (.int .i64 x.ls) := by rw [blk_cell hb]; rfl
  have z6 : W0.cell? ⟨w.heap.size, 6, none⟩ = some (.int .i64 x.length) := by rw [blk_cell hb]; rfl
  have z7 : W0.cell? ⟨w.heap.size, 7, none⟩ = some (.int .i64 x.title) := by rw [blk_cell hb]; rfl
  have z8 : W0.cell? ⟨w.heap.size, 8, none⟩ = some (.int .i64 x.indent) := by rw [blk_cell hb]; rfl
  have z9 : W0.cell? ⟨w.heap.size, 9, none⟩ = some (.int .i64 x.temp) := by rw [blk_cell hb]; rfl
  have z10 : W0.cell? ⟨w.heap.size, 10, none⟩ = some (.bool x.fill) := by rw [blk_cell hb]; rfl
  have z11 : W0.cell? ⟨w.heap.size, 11, none⟩ = some (.bool x.adjust) := by rw [blk_cell hb]; rfl
  have z12 : W0.cell? ⟨w.heap.size, 12, none⟩ = some (.bool x.hyphens) := by rw [blk_cell hb]; rfl
  have z13 : W0.cell? ⟨w.heap.size, 13, none⟩ = some (.bool x.ligs) := by rw [blk_cell hb]; rfl
  have z14 : W0.cell? ⟨w.heap.size, 14, none⟩ = some (.bool x.kerns) := by rw [blk_cell hb]; rfl
  have z15 : W0.cell? ⟨w.heap.size, 15, none⟩ = some (.int .u8 (x.mode.toNat : Int)) := by rw [blk_cell hb]; rfl
  have z16 : W0.cell? ⟨w.heap.size, 16, none⟩ = some (.int .i64 x.centre) := by rw [blk_cell hb]; rfl
  have z17 : W0.cell? ⟨w.heap.size, 17, none⟩ = some (.int .i64 x.under) := by rw [blk_cell hb]; rfl
  have z18 : W0.cell? ⟨w.heap.size, 18, none⟩ = some (.int .i64 x.cross) := by rw [blk_cell hb]; rfl
  have z19 : W0.cell? ⟨w.heap.size, 19, none⟩ = some (.int .i64 x.space) := by rw [blk_cell hb]; rfl
  have z20 : W0.cell? ⟨w.heap.size, 20, none⟩ = some (.int .i64 x.sentence) := by rw [blk_cell hb]; rfl
  have z23 : W0.cell? ⟨w.heap.size, 23, none⟩ = some (.string x.tab) := by rw [blk_cell hb]; rfl
  have z24 : W0.cell? ⟨w.heap.size, 24, none⟩ = some (.string x.leader) := by rw [blk_cell hb]; rfl
  have z25 : W0.cell? ⟨w.heap.size, 25, none⟩ = some (.string x.margin) := by rw [blk_cell hb]; rfl
  have z26 : W0.cell? ⟨w.heap.size, 26, none⟩ = some (.string x.colour) := by rw [blk_cell hb]; rfl
  have z27 : W0.cell? ⟨w.heap.size, 27, none⟩ = some (.string x.lastColour) := by rw [blk_cell hb]; rfl
  have z28 : W0.cell? ⟨w.heap.size, 28, none⟩ = some (.int .i64 x.marginAt) := by rw [blk_cell hb]; rfl
  have z29 : W0.cell? ⟨w.heap.size, 29, none⟩ = some (.bool x.on) := by rw [blk_cell hb]; rfl
  have z30 : W0.cell? ⟨w.heap.size, 30, none⟩ = some (.int .i64 x.next) := by rw [blk_cell hb]; rfl
  have z31 : W0.cell? ⟨w.heap.size, 31, none⟩ = some (.int .i64 x.nevery) := by rw [blk_cell hb]; rfl
  have z32 : W0.cell? ⟨w.heap.size, 32, none⟩ = some (.int .i64 x.nspace) := by rw [blk_cell hb]; rfl
  have z33 : W0.cell? ⟨w.heap.size, 33, none⟩ = some (.int .i64 x.nindent) := by rw [blk_cell hb]; rfl
  have z34 : W0.cell? ⟨w.heap.size, 34, none⟩ = some (.int .i64 x.nskip) := by rw [blk_cell hb]; rfl
  have z36 : W0.cell? ⟨w.heap.size, 36, none⟩ = some (.int .i64 x.before) := by rw [blk_cell hb]; rfl
  have z37 : W0.cell? ⟨w.heap.size, 37, none⟩ = some (.int .i64 x.after) := by rw [blk_cell hb]; rfl
  have z38 : W0.cell? ⟨w.heap.size, 38, none⟩ = some (.bool x.joined) := by rw [blk_cell hb]; rfl
  have z39 : W0.cell? ⟨w.heap.size, 39, none⟩ = some (.bool x.odd) := by rw [blk_cell hb]; rfl
  have HZ := hide hz
  have HBEL := hide hbel
  clear hb hz hbel hsz
  go_wp2_with (first
    | refine wpList_built rfl 92 _ #[.int .i64 x.font, .int .i64 x.lastFont, .int .i64 x.size, .int .i64 x.lastSize, .int .i64 x.vs, .int .i64 x.ls, .int .i64 x.length, .int .i64 x.title, .int .i64 x.indent, .int .i64 x.temp, .int .i64 x.centre, .int .i64 x.under, .int .i64 x.cross, .int .i64 x.space, .int .i64 x.sentence, .int .i64 x.marginAt, .int .i64 x.before, .int .i64 x.after] rfl (by kernel_rfl) ?_
    | refine wpList_built rfl 93 _ #[.bool x.fill, .bool x.adjust, .bool x.hyphens, .bool x.ligs, .bool x.kerns, .bool x.joined, .bool x.odd] rfl (by kernel_rfl) ?_
    | refine wpList_built rfl 94 _ #[.string x.tab, .string x.leader, .string x.margin, .string x.colour, .string x.lastColour] rfl (by kernel_rfl) ?_
    | refine wpList_built rfl 96 _ (plainCs x).toArray rfl (by kernel_rfl) ?_
    | refine wpList_store_row rfl 96 _ _ rfl (w.heap.size + 1) (plainCs x).toArray rfl rfl 96 _ HZ.out size_bare rfl (plain_one x) ?_)
  refine bodyPost_ret (results_cell_row rfl _ _ (w.heap.size + 1) 96 (plainCs x).toArray (0, 0) _ rfl (setRow_heap _ _ _ _ _ _ HZ.out) Try.underlying96 rfl size_bare) rfl ?_
  exact ⟨rfl, below_setRow HBEL.out (by omega) _⟩
end Go.Proofs.Ytekkjieoikgpmaa
