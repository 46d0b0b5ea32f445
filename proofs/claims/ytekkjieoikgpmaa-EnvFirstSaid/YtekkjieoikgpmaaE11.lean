/- The environments: what they are in memory; New, none, Now, Name, Depth. -/
import Derived.Test.YtekkjieoikgpmaaE10
import Derived.Deep.RegionHeld3
set_option linter.unusedVariables false
set_option linter.unusedSimpArgs false
namespace Go.Proofs.Ytekkjieoikgpmaa
open Go.RowKit
set_option maxHeartbeats 3200000
set_option maxRecDepth 1000000

/-- The blocks that may turn. -/
def Mut (g b : Nat) (sv : Value) (k : Nat) : Prop := k = g ∨ k = b ∨ sv.ownBlock = some k
def updT (F : ByteArray → Option EnvT) (s : ByteArray) (x : EnvT) : ByteArray → Option EnvT := fun t => if t = s then some x else F t
theorem updT_same (F : ByteArray → Option EnvT) (s : ByteArray) (x : EnvT) : updT F s x s = some x := by unfold updT; rw [if_pos rfl]
theorem updT_other (F : ByteArray → Option EnvT) {s t : ByteArray} (x : EnvT) (h : t ≠ s) : updT F s x t = F t := by unfold updT; rw [if_neg h]
/-- What the map's values are. -/
def ValsAt (w : World) (no : Nat → Prop) (F : ByteArray → Option EnvT) (V : ByteArray → Option Value) : Prop :=
  ∀ s, (F s = none → V s = none) ∧ ∀ x, F s = some x → ∃ cs, V s = some (.agg cs.toArray) ∧ envK.K w (fun k => ¬ no k) x cs
/-- Environments at block g: their map at b; F: what each name's is; now: the present one's name; L: the names that were left. -/
structure EnvsAt (X : Nat → Prop) (w : World) (g b : Nat) (F : ByteArray → Option EnvT) (sz : Nat) (now : ByteArray) (sv : Value) (L : List ByteArray) : Prop where
  blk : w.heap[g]? = some (.cells #[.map (some b), .string now, sv] 67 (0, 0))
  map : ∃ V, MapV w b V sz ∧ ValsAt w (fun k => Mut g b sv k ∨ X k) F V
  stack : Stk w sv L
  small : ∀ s x, F s = some x → x.small
  named : ∀ s x, F s = some x → s.size ≤ 20
  here : ∃ x, F now = some x
  left : ∀ s, s ∈ L → ∃ x, F s = some x
  depth : L.length ≤ 20
  most : sz ≤ 50
  xlt : ∀ k, X k → k < w.heap.size
namespace EnvsAt
variable {X : Nat → Prop} {w w' : World} {g b sz : Nat} {F : ByteArray → Option EnvT} {now : ByteArray} {sv : Value} {L : List ByteArray}
theorem lt (h : EnvsAt X w g b F sz now sv L) : g < w.heap.size := blk_lt h.blk
theorem mut_lt (h : EnvsAt X w g b F sz now sv L) : ∀ k, Mut g b sv k → k < w.heap.size := by
  rintro k (rfl | rfl | hk)
  · exact h.lt
  · obtain ⟨V, h1, -⟩ := h.map
    exact h1.lt
  · exact h.stack.lt k hk
theorem gb (h : EnvsAt X w g b F sz now sv L) : g ≠ b := by
  intro e
  obtain ⟨V, h1, -⟩ := h.map
  obtain ⟨es, clock, h2⟩ := h1.block
  have h3 := h.blk
  rw [e, h2] at h3
  cases h3
theorem gs (h : EnvsAt X w g b F sz now sv L) : sv.ownBlock ≠ some g := by
  intro e
  obtain ⟨cur, h1⟩ := h.stack.typed g e
  exact blk_ne h1 h.blk (by decide) rfl
theorem bs (h : EnvsAt X w g b F sz now sv L) : sv.ownBlock ≠ some b := by
  intro e
  obtain ⟨cur, h1⟩ := h.stack.typed b e
  obtain ⟨V, h2, -⟩ := h.map
  obtain ⟨es, clock, h3⟩ := h2.block
  rw [h3] at h1
  cases h1
theorem below (h : EnvsAt X w g b F sz now sv L) (hb : Below w.heap.size w w') : EnvsAt X w' g b F sz now sv L := by
  obtain ⟨V, h1, h2⟩ := h.map
  refine ⟨blk_below h.blk hb h.lt, ⟨V, h1.below hb, fun s => ⟨(h2 s).1, fun x hx => ?_⟩⟩, h.stack.step (fun k hk => hb.block k (h.stack.lt k hk)), h.small, h.named, h.here, h.left, h.depth, h.most, fun k hk => Nat.lt_of_lt_of_le (h.xlt k hk) hb.size⟩
  obtain ⟨cs, h3, h4⟩ := (h2 s).2 x hx
  exact ⟨cs, h3, Kind.below h4 hb⟩
theorem cells (h : EnvsAt X w g b F sz now sv L) : w.cell? ⟨g, 0, none⟩ = some (.map (some b)) ∧ w.cell? ⟨g, 1, none⟩ = some (.string now) ∧ w.cell? ⟨g, 2, none⟩ = some sv := by
  refine ⟨?_, ?_, ?_⟩ <;> rw [blk_cell h.blk] <;> rfl
/-- What an environment's value is. -/
theorem val (h : EnvsAt X w g b F sz now sv L) {s : ByteArray} {x : EnvT} (hx : F s = some x) : ∃ cs, envK.K w (fun k => ¬ (Mut g b sv k ∨ X k)) x cs ∧ (Instr.lookup 65 (.map (some b)) (.string s) false).run Try.prog w = .ok (.agg cs.toArray) w ∧ (Instr.lookup 65 (.map (some b)) (.string s) true).run Try.prog w = .ok (.tuple #[.agg cs.toArray, .bool true]) w := by
  obtain ⟨V, h1, h2⟩ := h.map
  obtain ⟨cs, h3, h4⟩ := (h2 s).2 x hx
  have hs := h.named s x hx
  refine ⟨cs, h4, ?_, ?_⟩
  · rw [h1.look (by omega), h3]; rfl
  · rw [h1.look_ok (by omega), h3]; rfl
theorem no_val (h : EnvsAt X w g b F sz now sv L) {s : ByteArray} (hs : s.size ≤ 9223372036854775807) (hx : F s = none) : (Instr.lookup 65 (.map (some b)) (.string s) true).run Try.prog w = .ok (.tuple #[zeroV, .bool false]) w := by
  obtain ⟨V, h1, h2⟩ := h.map
  rw [h1.look_ok hs, (h2 s).1 hx]; rfl
theorem len (h : EnvsAt X w g b F sz now sv L) (ty : TypeId) : (Builtin.len_ #[65] ty #[.map (some b)]).run Try.prog w = .ok (.int .i64 sz) w := by
  obtain ⟨V, h1, h2⟩ := h.map
  exact h1.len ty
/-- New blocks are left alone from now on. -/
theorem avoid (h : EnvsAt X w g b F sz now sv L) (hb : Below w.heap.size w w') {Y : Nat → Prop} (hY : ∀ k, Y k → w.heap.size ≤ k ∧ k < w'.heap.size) : EnvsAt (fun k => X k ∨ Y k) w' g b F sz now sv L := by
  obtain ⟨V, h1, h2⟩ := h.map
  refine ⟨blk_below h.blk hb h.lt, ⟨V, h1.below hb, fun s => ⟨(h2 s).1, fun x hx => ?_⟩⟩, h.stack.step (fun k hk => hb.block k (h.stack.lt k hk)), h.small, h.named, h.here, h.left, h.depth, h.most, fun k hk => ?_⟩
  · obtain ⟨cs, h3, h4⟩ := (h2 s).2 x hx
    refine ⟨cs, h3, envK.weaken (ok := fun k => (¬ (Mut g b sv k ∨ X k)) ∧ k < w.heap.size) (fun k hk e => ?_) (Kind.step (envK.bound h4) (fun k hk1 hk2 => hb.block k hk2))⟩
    rcases e with e | e | e
    · exact hk.1 (.inl e)
    · exact hk.1 (.inr e)
    · have := hY k e; omega
  · rcases hk with hk | hk
    · exact Nat.lt_of_lt_of_le (h.xlt k hk) hb.size
    · exact (hY k hk).2
/-- What may turn besides: blocks that are left alone. -/
theorem other (h : EnvsAt X w g b F sz now sv L) (hk : Kept (fun k => X k ∧ ¬ Mut g b sv k) w w') : EnvsAt X w' g b F sz now sv L := by
  obtain ⟨V, h1, h2⟩ := h.map
  have hm : ∀ k, Mut g b sv k → w'.heap[k]? = w.heap[k]? := fun k e => hk.block k (h.mut_lt k e) (fun e2 => e2.2 e)
  refine ⟨(hm g (.inl rfl)).trans h.blk, ⟨V, h1.step (hm b (.inr (.inl rfl))), fun s => ⟨(h2 s).1, fun x hx => ?_⟩⟩, h.stack.step (fun k e => hm k (.inr (.inr e))), h.small, h.named, h.here, h.left, h.depth, h.most, fun k e => Nat.lt_of_lt_of_le (h.xlt k e) hk.size⟩
  obtain ⟨cs, h3, h4⟩ := (h2 s).2 x hx
  exact ⟨cs, h3, Kind.step h4 (fun k hk1 hk2 => hk.block k hk2 (fun e => hk1 (.inr e.1)))⟩
end EnvsAt

/-- A whole row is stored, as the walk meets it. -/
theorem store_row {P : Program} (w : World) (g : Nat) (t : TypeId) (old : Array Value) (cs : List Value) (hg : w.heap[g]? = some (.cells old t (0, 0))) (ho : old.size = cs.length) (h1 : ∀ v ∈ cs, v.oneCell' = true) :
    (storeCells ⟨g, 0, none⟩ cs 0).run P w = .ok () (w.setRow g cs.toArray) := by
  have := run_storeCells_from (P := P) g t cs 0 old w hg (by simp; omega) h1
  simpa using this
theorem load_row {P : Program} (w : World) (g : Nat) (t : TypeId) (cs : Array Value) (n : Nat) (hg : w.heap[g]? = some (.cells cs t (0, 0))) (hn : cs.size = n) :
    (loadCellsFrom ⟨g, 0, none⟩ 0 n #[]).run P w = .ok cs w := by
  subst hn
  have := run_loadCells_list (P := P) w ⟨g, 0, none⟩ cs.toList (fun j v hv => by
    have hadd : (⟨g, 0, none⟩ : Addr).add j = ⟨g, j, none⟩ := by unfold Addr.add; split <;> simp_all
    rw [hadd, blk_cell hg]
    simpa using hv)
  simpa [loadCells] using this
theorem EnvsAt.look_step {X : Nat → Prop} {w w' : World} {g b sz : Nat} {F : ByteArray → Option EnvT} {now : ByteArray} {sv : Value} {L : List ByteArray} (h : EnvsAt X w g b F sz now sv L) {s : ByteArray} (hs : s.size ≤ 9223372036854775807) {v : Value}
    (hl : (Instr.lookup 65 (.map (some b)) (.string s) false).run Try.prog w = .ok v w) (hb : w'.heap[b]? = w.heap[b]?) : (Instr.lookup 65 (.map (some b)) (.string s) false).run Try.prog w' = .ok v w' := by
  obtain ⟨V, h1, -⟩ := h.map
  rw [h1.look hs] at hl
  injection hl with hl
  rw [(h1.step hb).look hs, hl]
theorem none_at (w : World) (g b : Nat) (h : w.cell? ⟨g, 0, none⟩ = some (.map (some b))) : Calls Try.prog 51 #[.pointer (some ⟨g, 0, none⟩)] w fun e w' => e = .returned (.bool false) ∧ w = w' := by
  have heq := fun W => eql_map W (some b)
  go_enter Try.func51, Try.ntmps51
  go_wp2
  go_ret
  exact ⟨rfl, rfl⟩
/-- The name of the first one. -/
def name0 : ByteArray := ⟨#[48]⟩
theorem New_any (w : World) : Calls Try.prog 17 #[] w fun e w' => ∃ g b, e = .returned (.pointer (some ⟨g, 0, none⟩)) ∧ w.heap.size ≤ g ∧ w.heap.size ≤ b ∧ EnvsAt (fun _ => False) w' g b (updT (fun _ => none) name0 firstT) 1 name0 (.slice none 0 0) [] ∧ Below w.heap.size w w' := by
  have hmm := @run_makeMap Try.prog
  have HM0 := hide (MapV.made w)
  go_enter Try.func17, Try.ntmps17
  go_wp2_with (go_at_call 12
               refine (First_any _).mono ?_
               rintro e w1 ⟨rfl, q⟩
               obtain ⟨w2, hrun, q1, q2⟩ := (HM0.out.below q).put (s := ⟨#[48]⟩) (by decide) (by omega) (.agg firstCs.toArray)
               have HM2 := hide q1
               have HG2 := hide q2
               have Q := hide q
               clear q q1 q2)
  go_ret
  have hb2 : Below w.heap.size w w2 := (((Below.refl _ _).alloc (Nat.le_refl _) _).trans (Q.out.mono (by simp))).grown HG2.out (by have := Q.out.size; simp at this; omega) (fun k hk => by have := Option.some.inj hk; omega)
  have hb3 : Below w2.heap.size w2 (w2.alloc (.cells #[.map (some w.heap.size), .string ⟨#[48]⟩, .slice none 0 0] 67)) := (Below.refl _ _).alloc (Nat.le_refl _) _
  refine ⟨w2.heap.size, w.heap.size, rfl, hb2.size, Nat.le_refl _, ⟨blk_new _ _, ⟨_, HM2.out.below hb3, fun s => ⟨fun hs => ?_, fun x hx => ?_⟩⟩, Stk.nil _, fun s x hx => ?_, fun s x hx => ?_, ⟨firstT, updT_same _ _ _⟩, fun s hs => (by cases hs), by simp, by omega, fun k hk => hk.elim⟩, below_then hb2 hb2.size hb3⟩
  · by_cases e : s = name0
    · subst e; rw [updT_same] at hs; cases hs
    · exact upd_other _ _ e
  · by_cases e : s = name0
    · subst e
      rw [updT_same] at hx
      obtain rfl := Option.some.inj hx
      exact ⟨firstCs, upd_same _ _ _, first_K _ _⟩
    · rw [updT_other _ _ e] at hx; cases hx
  · by_cases e : s = name0
    · subst e
      rw [updT_same] at hx
      obtain rfl := Option.some.inj hx
      exact first_small
    · rw [updT_other _ _ e] at hx; cases hx
  · by_cases e : s = name0
    · subst e; decide
    · rw [updT_other _ _ e] at hx; cases hx
/-- What is set: the present environment, with memory of its own. -/
theorem Now_any {X : Nat → Prop} {w : World} {g b sz : Nat} {F : ByteArray → Option EnvT} {now : ByteArray} {sv : Value} {L : List ByteArray} (h : EnvsAt X w g b F sz now sv L) {x : EnvT} (hx : F now = some x) :
    Calls Try.prog 18 #[.pointer (some ⟨g, 0, none⟩)] w fun e w' => ∃ cs, e = .returned (.agg cs.toArray) ∧ envK.K w' (fun k => w.heap.size ≤ k) x cs ∧ Below w.heap.size w w' := by
  obtain ⟨c0, c1, c2⟩ := h.cells
  have hsm := h.small _ _ hx
  have H := hide h
  have HX := hide hx
  have HSM := hide hsm
  clear h hx hsm c2
  have hal : ∀ o : Obj, Below w.heap.size w (w.alloc o) := fun o => (Below.refl _ _).alloc (Nat.le_refl _) _
  go_enter Try.func18, Try.ntmps18
  go_upto_region 1 with fail
  refine wp_one ?_
  intro W0 hb hbel hsz
  have d0 := cell_stays hbel c0
  have d1 := cell_stays hbel c1
  have HH := hide (H.out.below hbel)
  obtain ⟨cs, hK, hl, -⟩ := HH.out.val HX.out
  have HK := hide hK
  have HB := hide hb
  have HBEL := hide hbel
  clear hb hbel hK c0 c1 hal
  go_upto_region 3 with (go_at_call 51; refine (none_at _ _ _ d0).mono ?_; rintro e w' ⟨rfl, rfl⟩)
  have hdr : Below W0.heap.size W0 W0.drew := (Below.refl _ _).drew
  have hns : now.size ≤ 9223372036854775807 := by have := HH.out.named _ _ HX.out; omega
  have hbl : b < W0.heap.size := HH.out.mut_lt b (.inr (.inl rfl))
  have HSM1 := hide (show W0.drew.cell? ⟨g, 0, none⟩ = some (.map (some b)) ∧ W0.drew.cell? ⟨g, 1, none⟩ = some (.string now) ∧ (Instr.lookup 65 (.map (some b)) (.string now) false).run Try.prog W0.drew = .ok (.agg cs.toArray) W0.drew from
    ⟨cell_stays hdr d0, cell_stays hdr d1, HH.out.look_step hns hl rfl⟩)
  go_region_held3 (fun w' => w'.cell? ⟨g, 0, none⟩ = some (.map (some b)) ∧ w'.cell? ⟨g, 1, none⟩ = some (.string now) ∧ (Instr.lookup 65 (.map (some b)) (.string now) false).run Try.prog w' = .ok (.agg cs.toArray) w')
    (first | exact HSM1.out | exact HS2.out | exact HS3.out)
    (first
      | (go_at_call 52
         refine (own_any x cs _ _ (Kind.below HK.out hdr) HSM.out).mono ?_
         rintro e w2 ⟨cs2, rfl, q1, q2⟩
         have hq : Below W0.heap.size W0 w2 := hdr.trans (q2.mono (Nat.le_refl _))
         have HS2 := hide (show w2.cell? ⟨g, 0, none⟩ = some (.map (some b)) ∧ w2.cell? ⟨g, 1, none⟩ = some (.string now) ∧ (Instr.lookup 65 (.map (some b)) (.string now) false).run Try.prog w2 = .ok (.agg cs.toArray) w2 from
             ⟨cell_stays hq d0, cell_stays hq d1, HH.out.look_step hns hl (hq.block b hbl)⟩)
         have hb2 := blk_below HB.out hq (blk_lt HB.out)
         have hst : (storeCells ⟨w.heap.size, 0, none⟩ cs2 0).run Try.prog w2 = .ok () (w2.setRow w.heap.size cs2.toArray) := store_row w2 _ _ _ cs2 hb2 (by rw [envK.len q1]; rfl) (envK.one q1)
         have hcl : cs2.length = 40 := envK.len q1
         have hgl : g < w.heap.size := H.out.lt
         have hbw : b < w.heap.size := H.out.mut_lt b (.inr (.inl rfl))
         have HS3 := hide (show (w2.setRow w.heap.size cs2.toArray).cell? ⟨g, 0, none⟩ = some (.map (some b)) ∧ (w2.setRow w.heap.size cs2.toArray).cell? ⟨g, 1, none⟩ = some (.string now) ∧ (Instr.lookup 65 (.map (some b)) (.string now) false).run Try.prog (w2.setRow w.heap.size cs2.toArray) = .ok (.agg cs.toArray) (w2.setRow w.heap.size cs2.toArray) from
             ⟨(cell_same (setRow_other w2 _ g _ (by omega)) 0).trans HS2.out.1, (cell_same (setRow_other w2 _ g _ (by omega)) 1).trans HS2.out.2.1, HH.out.look_step hns hl ((setRow_other w2 _ b _ (by omega)).trans (hq.block b hbl))⟩)
         have HQ1 := hide q1
         have HQ := hide hq
         have HB2 := hide hb2
         have HCL := hide hcl
         clear q1 q2 hq hb2))
  go_wp2_with fail
  refine bodyPost_ret (results_cell_row rfl _ _ w.heap.size 29 cs2.toArray (0, 0) _ rfl (setRow_heap _ _ _ _ _ _ HB2.out) Try.underlying29 rfl (by rw [size_env]; simp [HCL.out])) rfl ?_
  refine ⟨cs2, rfl, ?_, below_setRow (HBEL.out.trans (HQ.out.mono HBEL.out.size)) (Nat.le_refl _) _⟩
  refine Kind.step (envK.weaken (ok' := fun k => w.heap.size < k) (fun k hk => ?_) HQ1.out) (fun k hk _ => setRow_other _ _ _ _ (by omega)) |> envK.weaken (fun k hk => by omega)
  have : W0.drew.heap.size = W0.heap.size := rfl
  omega
end Go.Proofs.Ytekkjieoikgpmaa
