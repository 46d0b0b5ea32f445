/- slices.symMergeCmpFunc at traps: its last three statements. -/
import Derived.Test.YtpndigonlgnbeaaT4
import Derived.Test.YtpndigonlgnbeaaT5
import Derived.Deep.DeepCutAuto
set_option linter.unusedVariables false
set_option linter.unusedSimpArgs false
namespace Go.Proofs.Ytpndigonlgnbeaa
open Go.RowKit
set_option maxHeartbeats 3200000
set_option maxRecDepth 1000000

/-- Parts of at most d elements are merged. -/
def SymSaid (d : Nat) : Prop := ∀ (g0 c n a mid b : Nat) (ai mi bi : Int) (m pre U V post : List TrapT) (w : World), n ≤ 1000000000000 → trapK.RowAt 33 w (fun _ => False) g0 c m → n = m.length → m = pre ++ (U ++ (V ++ post)) → a = pre.length → mid = a + U.length →
  b = mid + V.length → TS.Sorted TK U → TS.Sorted TK V → 0 < U.length → 0 < V.length → U.length + V.length ≤ d → ai = a → mi = mid → bi = b →
    Calls Try.prog 61 #[.slice (some ⟨g0, 0, none⟩) n c, .int .i64 ai, .int .i64 mi, .int .i64 bi, .func (.func 28) #[] #[]] w fun e w' => e = .returned (.tuple #[]) ∧ trapK.RowAt 33 w' (fun _ => False) g0 c (pre ++ (TS.mrg TK U V ++ post)) ∧ Kept (fun i => i = g0) w w'

/-- The first region of a statement. -/
def lead : Code → Option Nat
  | .region n _ _ => some n
  | _ => none

/-- The statement that opens with the region n. -/
def codeAt (n : Nat) : Code → Option Code
  | .seq a b => if lead a == some n then some (.seq a b) else (codeAt n a).orElse fun _ => codeAt n b
  | .cond _ a b => (codeAt n a).orElse fun _ => codeAt n b
  | .block _ a => codeAt n a
  | .loop a => codeAt n a
  | _ => none

theorem stage39_trap {cc : Code} (hc : codeAt 39 (Try.f61.body.getD .skip) = some cc) (K : Act → World → Prop) (Q : Exit → Act → World → Prop) (g0 n c a mid b md i en d : Nat) (pre U1 U2 V1 V2 post : List TrapT) (w : World) (hn : n ≤ 1000000000000)
    (l1 : a = pre.length) (l2 : U1.length + a = i) (l3 : U2.length + i = mid) (l4 : V1.length + mid = en) (l5 : V2.length + en = b) (l7 : n = pre.length + (U1.length + U2.length) + (V1.length + V2.length + post.length)) (l8 : md + mid = en + i) (hR : trapK.RowAt 33 w (fun _ => False) g0 c (pre ++ ((U1 ++ U2) ++ ((V1 ++ V2) ++ post))))
    (u5 u6 u7 u8 u9 u10 u11 u12 u13 u14 u15 u16 u17 u19 u21 u22 u23 u25 u26 u27 u28 u29 u30 u31 u32 u33 u34 u35 u36 u37 u38 u39 u40 u41 u42 u43 u44 u45 u46 u47 u48 u49 u50 u51 u52 u53 u54 u55 u56 u57 u58 u59 u60 u61 u62 u63 u64 u65 u66 u67 u68 u69 u70 u71 u72 u73 u74 u75 u76 u77 u78 u79 u80 u81 u82 u83 u84 u85 u86 u87 u88 u89 u90 u91 u92 u93 u94 u95 u96 u97 u98 u99 u100 u101 u102 u103 u104 u105 u106 u107 u108 u109 u110 u111 u112 u113 u114 u115 u116 u117 u118 u119 u120 u121 u122 u123 u124 u125 u126 u127 u128 u129 u130 u131 u132 u133 u134 u135 u136 u137 u138 u139 u140 u141 u142 u143 u144 u145 u146 u147 u148 u149 u150 u151 u152 u153 u154 u155 u156 u157 u158 u159 u160 u161 u162 u163 u164 u165 u166 u167 u168 u169 u170 u171 u172 u173 u174 u175 u176 u177 u178 u179 u180 u181 u182 u183 u184 u185 u186 u187 u188 u189 u190 u191 u192 u193 u194 u195 u196 u197 u198 u199 u200 u201 u202 u203 u204 u205 u206 u207 u208 u209 u210 u211 u212 u213 u214 u215 u216 u217 u218 u219 : Value)
    (hK : ∀ (v178 v179 v180 v181 v182 v183 v184 v185 v186 v187 v188 v189 v190 v191 : Value) (w' : World), trapK.RowAt 33 w' (fun _ => False) g0 c (pre ++ (U1 ++ (V1 ++ (U2 ++ (V2 ++ post))))) → Kept (fun i => i = g0) w w' →
      K ⟨#[.slice (some ⟨g0, 0, none⟩) n c, .int .i64 (a : Int), .int .i64 (mid : Int), .int .i64 (b : Int), .func (.func 28) #[] #[], u5, u6, u7, u8, u9, u10, u11, u12, u13, u14, u15, u16, u17, .int .i64 (md : Int), u19, .int .i64 (i : Int), u21, u22, u23, .int .i64 (en : Int), u25, u26, u27, u28, u29, u30, u31, u32, u33, u34, u35, u36, u37, u38, u39, u40, u41, u42, u43, u44, u45, u46, u47, u48, u49, u50, u51, u52, u53, u54, u55, u56, u57, u58, u59, u60, u61, u62, u63, u64, u65, u66, u67, u68, u69, u70, u71, u72, u73, u74, u75, u76, u77, u78, u79, u80, u81, u82, u83, u84, u85, u86, u87, u88, u89, u90, u91, u92, u93, u94, u95, u96, u97, u98, u99, u100, u101, u102, u103, u104, u105, u106, u107, u108, u109, u110, u111, u112, u113, u114, u115, u116, u117, u118, u119, u120, u121, u122, u123, u124, u125, u126, u127, u128, u129, u130, u131, u132, u133, u134, u135, u136, u137, u138, u139, u140, u141, u142, u143, u144, u145, u146, u147, u148, u149, u150, u151, u152, u153, u154, u155, u156, u157, u158, u159, u160, u161, u162, u163, u164, u165, u166, u167, u168, u169, u170, u171, u172, u173, u174, u175, u176, u177, v178, v179, v180, v181, v182, v183, v184, v185, v186, v187, v188, v189, v190, v191, u192, u193, u194, u195, u196, u197, u198, u199, u200, u201, u202, u203, u204, u205, u206, u207, u208, u209, u210, u211, u212, u213, u214, u215, u216, u217, u218, u219], []⟩ w') :
    Code.wp Try.prog cc (Exit.then K Q) ⟨#[.slice (some ⟨g0, 0, none⟩) n c, .int .i64 (a : Int), .int .i64 (mid : Int), .int .i64 (b : Int), .func (.func 28) #[] #[], u5, u6, u7, u8, u9, u10, u11, u12, u13, u14, u15, u16, u17, .int .i64 (md : Int), u19, .int .i64 (i : Int), u21, u22, u23, .int .i64 (en : Int), u25, u26, u27, u28, u29, u30, u31, u32, u33, u34, u35, u36, u37, u38, u39, u40, u41, u42, u43, u44, u45, u46, u47, u48, u49, u50, u51, u52, u53, u54, u55, u56, u57, u58, u59, u60, u61, u62, u63, u64, u65, u66, u67, u68, u69, u70, u71, u72, u73, u74, u75, u76, u77, u78, u79, u80, u81, u82, u83, u84, u85, u86, u87, u88, u89, u90, u91, u92, u93, u94, u95, u96, u97, u98, u99, u100, u101, u102, u103, u104, u105, u106, u107, u108, u109, u110, u111, u112, u113, u114, u115, u116, u117, u118, u119, u120, u121, u122, u123, u124, u125, u126, u127, u128, u129, u130, u131, u132, u133, u134, u135, u136, u137, u138, u139, u140, u141, u142, u143, u144, u145, u146, u147, u148, u149, u150, u151, u152, u153, u154, u155, u156, u157, u158, u159, u160, u161, u162, u163, u164, u165, u166, u167, u168, u169, u170, u171, u172, u173, u174, u175, u176, u177, u178, u179, u180, u181, u182, u183, u184, u185, u186, u187, u188, u189, u190, u191, u192, u193, u194, u195, u196, u197, u198, u199, u200, u201, u202, u203, u204, u205, u206, u207, u208, u209, u210, u211, u212, u213, u214, u215, u216, u217, u218, u219], []⟩ w := by
  have e : codeAt 39 (Try.f61.body.getD .skip) = some _ := rfl
  rw [e] at hc
  injection hc with hc
  subst hc
  clear e
  have HK := hide hK
  have HR := hide hR
  have L1 := hide l1
  have L2 := hide l2
  have L3 := hide l3
  have L4 := hide l4
  have L5 := hide l5
  have L7 := hide l7
  have L8 := hide l8
  have b1 : i ≤ n := by omega
  have b2 : mid ≤ n := by omega
  have b3 : en ≤ n := by omega
  have b4 : b ≤ n := by omega
  have b5 : md ≤ n := by omega
  clear hK hR l1 l2 l3 l4 l5 l7 l8
  by_cases h1 : i < mid
  · by_cases h2 : mid < en
    · go_wp2_with (go_at_call 64
                   refine (rotate_trap _ _ g0 c n i mid en _ _ _ _ (pre ++ U1) U2 V1 (V2 ++ post) _ hn HR.out (by have L1 := L1.out; have L2 := L2.out; have L3 := L3.out; have L4 := L4.out; have L5 := L5.out; have L7 := L7.out; have L8 := L8.out; simp; omega) (by simp) (by have L1 := L1.out; have L2 := L2.out; have L3 := L3.out; have L4 := L4.out; have L5 := L5.out; have L7 := L7.out; have L8 := L8.out; simp; omega) (by have L1 := L1.out; have L2 := L2.out; have L3 := L3.out; have L4 := L4.out; have L5 := L5.out; have L7 := L7.out; have L8 := L8.out; omega) (by have L1 := L1.out; have L2 := L2.out; have L3 := L3.out; have L4 := L4.out; have L5 := L5.out; have L7 := L7.out; have L8 := L8.out; omega) (by have L1 := L1.out; have L2 := L2.out; have L3 := L3.out; have L4 := L4.out; have L5 := L5.out; have L7 := L7.out; have L8 := L8.out; omega) (by have L1 := L1.out; have L2 := L2.out; have L3 := L3.out; have L4 := L4.out; have L5 := L5.out; have L7 := L7.out; have L8 := L8.out; omega) rfl rfl rfl).mono ?_
                   rintro e w' ⟨rfl, q1, q2⟩
                   have Q1 := hide q1
                   have Q2 := hide q2
                   clear q1 q2)
      exact HK.out _ _ _ _ _ _ _ _ _ _ _ _ _ _ _ (by simpa using Q1.out) Q2.out
    · go_wp2_with fail
      refine HK.out _ _ _ _ _ _ _ _ _ _ _ _ _ _ _ ?_ (Kept.refl _ _)
      have hz : V1 = [] := List.eq_nil_of_length_eq_zero (by have L1 := L1.out; have L2 := L2.out; have L3 := L3.out; have L4 := L4.out; have L5 := L5.out; have L7 := L7.out; have L8 := L8.out; omega)
      have hrow := HR.out
      subst hz; simpa using hrow
  · go_wp2_with fail
    refine HK.out _ _ _ _ _ _ _ _ _ _ _ _ _ _ _ ?_ (Kept.refl _ _)
    have hz : U2 = [] := List.eq_nil_of_length_eq_zero (by have L1 := L1.out; have L2 := L2.out; have L3 := L3.out; have L4 := L4.out; have L5 := L5.out; have L7 := L7.out; have L8 := L8.out; omega)
    have hrow := HR.out
    subst hz; simpa using hrow

theorem stage41_trap {cc : Code} (hc : codeAt 41 (Try.f61.body.getD .skip) = some cc) (K : Act → World → Prop) (Q : Exit → Act → World → Prop) (g0 n c a mid b md i en d : Nat) (pre U1 U2 V1 V2 post : List TrapT) (w : World) (hn : n ≤ 1000000000000)
    (l1 : a = pre.length) (l2 : U1.length + a = i) (l3 : U2.length + i = mid) (l4 : V1.length + mid = en) (l5 : V2.length + en = b) (l7 : n = pre.length + (U1.length + U2.length) + (V1.length + V2.length + post.length)) (l8 : md + mid = en + i) (ih : SymSaid d) (sU : TS.Sorted TK U1) (sV : TS.Sorted TK V1) (ld : U1.length + V1.length ≤ d) (hR : trapK.RowAt 33 w (fun _ => False) g0 c (pre ++ (U1 ++ (V1 ++ (U2 ++ (V2 ++ post))))))
    (u5 u6 u7 u8 u9 u10 u11 u12 u13 u14 u15 u16 u17 u19 u21 u22 u23 u25 u26 u27 u28 u29 u30 u31 u32 u33 u34 u35 u36 u37 u38 u39 u40 u41 u42 u43 u44 u45 u46 u47 u48 u49 u50 u51 u52 u53 u54 u55 u56 u57 u58 u59 u60 u61 u62 u63 u64 u65 u66 u67 u68 u69 u70 u71 u72 u73 u74 u75 u76 u77 u78 u79 u80 u81 u82 u83 u84 u85 u86 u87 u88 u89 u90 u91 u92 u93 u94 u95 u96 u97 u98 u99 u100 u101 u102 u103 u104 u105 u106 u107 u108 u109 u110 u111 u112 u113 u114 u115 u116 u117 u118 u119 u120 u121 u122 u123 u124 u125 u126 u127 u128 u129 u130 u131 u132 u133 u134 u135 u136 u137 u138 u139 u140 u141 u142 u143 u144 u145 u146 u147 u148 u149 u150 u151 u152 u153 u154 u155 u156 u157 u158 u159 u160 u161 u162 u163 u164 u165 u166 u167 u168 u169 u170 u171 u172 u173 u174 u175 u176 u177 u178 u179 u180 u181 u182 u183 u184 u185 u186 u187 u188 u189 u190 u191 u192 u193 u194 u195 u196 u197 u198 u199 u200 u201 u202 u203 u204 u205 u206 u207 u208 u209 u210 u211 u212 u213 u214 u215 u216 u217 u218 u219 : Value)
    (hK : ∀ (v192 v193 v194 v195 v196 v197 v198 v199 v200 v201 v202 v203 v204 v205 : Value) (w' : World), trapK.RowAt 33 w' (fun _ => False) g0 c (pre ++ (TS.mrg TK U1 V1 ++ (U2 ++ (V2 ++ post)))) → Kept (fun i => i = g0) w w' →
      K ⟨#[.slice (some ⟨g0, 0, none⟩) n c, .int .i64 (a : Int), .int .i64 (mid : Int), .int .i64 (b : Int), .func (.func 28) #[] #[], u5, u6, u7, u8, u9, u10, u11, u12, u13, u14, u15, u16, u17, .int .i64 (md : Int), u19, .int .i64 (i : Int), u21, u22, u23, .int .i64 (en : Int), u25, u26, u27, u28, u29, u30, u31, u32, u33, u34, u35, u36, u37, u38, u39, u40, u41, u42, u43, u44, u45, u46, u47, u48, u49, u50, u51, u52, u53, u54, u55, u56, u57, u58, u59, u60, u61, u62, u63, u64, u65, u66, u67, u68, u69, u70, u71, u72, u73, u74, u75, u76, u77, u78, u79, u80, u81, u82, u83, u84, u85, u86, u87, u88, u89, u90, u91, u92, u93, u94, u95, u96, u97, u98, u99, u100, u101, u102, u103, u104, u105, u106, u107, u108, u109, u110, u111, u112, u113, u114, u115, u116, u117, u118, u119, u120, u121, u122, u123, u124, u125, u126, u127, u128, u129, u130, u131, u132, u133, u134, u135, u136, u137, u138, u139, u140, u141, u142, u143, u144, u145, u146, u147, u148, u149, u150, u151, u152, u153, u154, u155, u156, u157, u158, u159, u160, u161, u162, u163, u164, u165, u166, u167, u168, u169, u170, u171, u172, u173, u174, u175, u176, u177, u178, u179, u180, u181, u182, u183, u184, u185, u186, u187, u188, u189, u190, u191, v192, v193, v194, v195, v196, v197, v198, v199, v200, v201, v202, v203, v204, v205, u206, u207, u208, u209, u210, u211, u212, u213, u214, u215, u216, u217, u218, u219], []⟩ w') :
    Code.wp Try.prog cc (Exit.then K Q) ⟨#[.slice (some ⟨g0, 0, none⟩) n c, .int .i64 (a : Int), .int .i64 (mid : Int), .int .i64 (b : Int), .func (.func 28) #[] #[], u5, u6, u7, u8, u9, u10, u11, u12, u13, u14, u15, u16, u17, .int .i64 (md : Int), u19, .int .i64 (i : Int), u21, u22, u23, .int .i64 (en : Int), u25, u26, u27, u28, u29, u30, u31, u32, u33, u34, u35, u36, u37, u38, u39, u40, u41, u42, u43, u44, u45, u46, u47, u48, u49, u50, u51, u52, u53, u54, u55, u56, u57, u58, u59, u60, u61, u62, u63, u64, u65, u66, u67, u68, u69, u70, u71, u72, u73, u74, u75, u76, u77, u78, u79, u80, u81, u82, u83, u84, u85, u86, u87, u88, u89, u90, u91, u92, u93, u94, u95, u96, u97, u98, u99, u100, u101, u102, u103, u104, u105, u106, u107, u108, u109, u110, u111, u112, u113, u114, u115, u116, u117, u118, u119, u120, u121, u122, u123, u124, u125, u126, u127, u128, u129, u130, u131, u132, u133, u134, u135, u136, u137, u138, u139, u140, u141, u142, u143, u144, u145, u146, u147, u148, u149, u150, u151, u152, u153, u154, u155, u156, u157, u158, u159, u160, u161, u162, u163, u164, u165, u166, u167, u168, u169, u170, u171, u172, u173, u174, u175, u176, u177, u178, u179, u180, u181, u182, u183, u184, u185, u186, u187, u188, u189, u190, u191, u192, u193, u194, u195, u196, u197, u198, u199, u200, u201, u202, u203, u204, u205, u206, u207, u208, u209, u210, u211, u212, u213, u214, u215, u216, u217, u218, u219], []⟩ w := by
  have e : codeAt 41 (Try.f61.body.getD .skip) = some _ := rfl
  rw [e] at hc
  injection hc with hc
  subst hc
  clear e
  have HK := hide hK
  have HR := hide hR
  have L1 := hide l1
  have L2 := hide l2
  have L3 := hide l3
  have L4 := hide l4
  have L5 := hide l5
  have L7 := hide l7
  have L8 := hide l8
  have b1 : i ≤ n := by omega
  have b2 : mid ≤ n := by omega
  have b3 : en ≤ n := by omega
  have b4 : b ≤ n := by omega
  have b5 : md ≤ n := by omega
  clear hK hR l1 l2 l3 l4 l5 l7 l8
  have IH := hide ih
  have SU := hide sU
  have SV := hide sV
  have LD := hide ld
  clear ih sU sV ld
  by_cases h1 : a < i
  · by_cases h2 : i < md
    · go_wp2_with (go_at_call 61
                   refine (IH.out g0 c n a i md _ _ _ _ pre U1 V1 (U2 ++ (V2 ++ post)) _ hn HR.out (by have L1 := L1.out; have L2 := L2.out; have L3 := L3.out; have L4 := L4.out; have L5 := L5.out; have L7 := L7.out; have L8 := L8.out; simp; omega) rfl L1.out (by have L1 := L1.out; have L2 := L2.out; have L3 := L3.out; have L4 := L4.out; have L5 := L5.out; have L7 := L7.out; have L8 := L8.out; omega) (by have L1 := L1.out; have L2 := L2.out; have L3 := L3.out; have L4 := L4.out; have L5 := L5.out; have L7 := L7.out; have L8 := L8.out; omega) SU.out SV.out (by have L1 := L1.out; have L2 := L2.out; have L3 := L3.out; have L4 := L4.out; have L5 := L5.out; have L7 := L7.out; have L8 := L8.out; omega) (by have L1 := L1.out; have L2 := L2.out; have L3 := L3.out; have L4 := L4.out; have L5 := L5.out; have L7 := L7.out; have L8 := L8.out; omega) LD.out rfl rfl rfl).mono ?_
                   rintro e w' ⟨rfl, q1, q2⟩
                   have Q1 := hide q1
                   have Q2 := hide q2
                   clear q1 q2)
      exact HK.out _ _ _ _ _ _ _ _ _ _ _ _ _ _ _ (Q1.out) Q2.out
    · go_wp2_with fail
      refine HK.out _ _ _ _ _ _ _ _ _ _ _ _ _ _ _ ?_ (Kept.refl _ _)
      have hz : V1 = [] := List.eq_nil_of_length_eq_zero (by have L1 := L1.out; have L2 := L2.out; have L3 := L3.out; have L4 := L4.out; have L5 := L5.out; have L7 := L7.out; have L8 := L8.out; omega)
      have hrow := HR.out
      subst hz; simpa [TS.mrg] using hrow
  · go_wp2_with fail
    refine HK.out _ _ _ _ _ _ _ _ _ _ _ _ _ _ _ ?_ (Kept.refl _ _)
    have hz : U1 = [] := List.eq_nil_of_length_eq_zero (by have L1 := L1.out; have L2 := L2.out; have L3 := L3.out; have L4 := L4.out; have L5 := L5.out; have L7 := L7.out; have L8 := L8.out; omega)
    have hrow := HR.out
    subst hz; rw [TS.mrg_nil SV.out]; simpa using hrow

theorem stage43_trap {cc : Code} (hc : codeAt 43 (Try.f61.body.getD .skip) = some cc) (K : Act → World → Prop) (Q : Exit → Act → World → Prop) (g0 n c a mid b md i en d : Nat) (pre U1 U2 V1 V2 post : List TrapT) (w : World) (hn : n ≤ 1000000000000)
    (l1 : a = pre.length) (l2 : U1.length + a = i) (l3 : U2.length + i = mid) (l4 : V1.length + mid = en) (l5 : V2.length + en = b) (l7 : n = pre.length + (U1.length + U2.length) + (V1.length + V2.length + post.length)) (l8 : md + mid = en + i) (ih : SymSaid d) (sU : TS.Sorted TK U2) (sV : TS.Sorted TK V2) (ld : U2.length + V2.length ≤ d) (hR : trapK.RowAt 33 w (fun _ => False) g0 c (pre ++ (TS.mrg TK U1 V1 ++ (U2 ++ (V2 ++ post)))))
    (u5 u6 u7 u8 u9 u10 u11 u12 u13 u14 u15 u16 u17 u19 u21 u22 u23 u25 u26 u27 u28 u29 u30 u31 u32 u33 u34 u35 u36 u37 u38 u39 u40 u41 u42 u43 u44 u45 u46 u47 u48 u49 u50 u51 u52 u53 u54 u55 u56 u57 u58 u59 u60 u61 u62 u63 u64 u65 u66 u67 u68 u69 u70 u71 u72 u73 u74 u75 u76 u77 u78 u79 u80 u81 u82 u83 u84 u85 u86 u87 u88 u89 u90 u91 u92 u93 u94 u95 u96 u97 u98 u99 u100 u101 u102 u103 u104 u105 u106 u107 u108 u109 u110 u111 u112 u113 u114 u115 u116 u117 u118 u119 u120 u121 u122 u123 u124 u125 u126 u127 u128 u129 u130 u131 u132 u133 u134 u135 u136 u137 u138 u139 u140 u141 u142 u143 u144 u145 u146 u147 u148 u149 u150 u151 u152 u153 u154 u155 u156 u157 u158 u159 u160 u161 u162 u163 u164 u165 u166 u167 u168 u169 u170 u171 u172 u173 u174 u175 u176 u177 u178 u179 u180 u181 u182 u183 u184 u185 u186 u187 u188 u189 u190 u191 u192 u193 u194 u195 u196 u197 u198 u199 u200 u201 u202 u203 u204 u205 u206 u207 u208 u209 u210 u211 u212 u213 u214 u215 u216 u217 u218 u219 : Value)
    (hK : ∀ (v206 v207 v208 v209 v210 v211 v212 v213 v214 v215 v216 v217 v218 v219 : Value) (w' : World), trapK.RowAt 33 w' (fun _ => False) g0 c (pre ++ (TS.mrg TK U1 V1 ++ (TS.mrg TK U2 V2 ++ post))) → Kept (fun i => i = g0) w w' →
      K ⟨#[.slice (some ⟨g0, 0, none⟩) n c, .int .i64 (a : Int), .int .i64 (mid : Int), .int .i64 (b : Int), .func (.func 28) #[] #[], u5, u6, u7, u8, u9, u10, u11, u12, u13, u14, u15, u16, u17, .int .i64 (md : Int), u19, .int .i64 (i : Int), u21, u22, u23, .int .i64 (en : Int), u25, u26, u27, u28, u29, u30, u31, u32, u33, u34, u35, u36, u37, u38, u39, u40, u41, u42, u43, u44, u45, u46, u47, u48, u49, u50, u51, u52, u53, u54, u55, u56, u57, u58, u59, u60, u61, u62, u63, u64, u65, u66, u67, u68, u69, u70, u71, u72, u73, u74, u75, u76, u77, u78, u79, u80, u81, u82, u83, u84, u85, u86, u87, u88, u89, u90, u91, u92, u93, u94, u95, u96, u97, u98, u99, u100, u101, u102, u103, u104, u105, u106, u107, u108, u109, u110, u111, u112, u113, u114, u115, u116, u117, u118, u119, u120, u121, u122, u123, u124, u125, u126, u127, u128, u129, u130, u131, u132, u133, u134, u135, u136, u137, u138, u139, u140, u141, u142, u143, u144, u145, u146, u147, u148, u149, u150, u151, u152, u153, u154, u155, u156, u157, u158, u159, u160, u161, u162, u163, u164, u165, u166, u167, u168, u169, u170, u171, u172, u173, u174, u175, u176, u177, u178, u179, u180, u181, u182, u183, u184, u185, u186, u187, u188, u189, u190, u191, u192, u193, u194, u195, u196, u197, u198, u199, u200, u201, u202, u203, u204, u205, v206, v207, v208, v209, v210, v211, v212, v213, v214, v215, v216, v217, v218, v219], []⟩ w') :
    Code.wp Try.prog cc (Exit.then K Q) ⟨#[.slice (some ⟨g0, 0, none⟩) n c, .int .i64 (a : Int), .int .i64 (mid : Int), .int .i64 (b : Int), .func (.func 28) #[] #[], u5, u6, u7, u8, u9, u10, u11, u12, u13, u14, u15, u16, u17, .int .i64 (md : Int), u19, .int .i64 (i : Int), u21, u22, u23, .int .i64 (en : Int), u25, u26, u27, u28, u29, u30, u31, u32, u33, u34, u35, u36, u37, u38, u39, u40, u41, u42, u43, u44, u45, u46, u47, u48, u49, u50, u51, u52, u53, u54, u55, u56, u57, u58, u59, u60, u61, u62, u63, u64, u65, u66, u67, u68, u69, u70, u71, u72, u73, u74, u75, u76, u77, u78, u79, u80, u81, u82, u83, u84, u85, u86, u87, u88, u89, u90, u91, u92, u93, u94, u95, u96, u97, u98, u99, u100, u101, u102, u103, u104, u105, u106, u107, u108, u109, u110, u111, u112, u113, u114, u115, u116, u117, u118, u119, u120, u121, u122, u123, u124, u125, u126, u127, u128, u129, u130, u131, u132, u133, u134, u135, u136, u137, u138, u139, u140, u141, u142, u143, u144, u145, u146, u147, u148, u149, u150, u151, u152, u153, u154, u155, u156, u157, u158, u159, u160, u161, u162, u163, u164, u165, u166, u167, u168, u169, u170, u171, u172, u173, u174, u175, u176, u177, u178, u179, u180, u181, u182, u183, u184, u185, u186, u187, u188, u189, u190, u191, u192, u193, u194, u195, u196, u197, u198, u199, u200, u201, u202, u203, u204, u205, u206, u207, u208, u209, u210, u211, u212, u213, u214, u215, u216, u217, u218, u219], []⟩ w := by
  have e : codeAt 43 (Try.f61.body.getD .skip) = some _ := rfl
  rw [e] at hc
  injection hc with hc
  subst hc
  clear e
  have HK := hide hK
  have HR := hide hR
  have L1 := hide l1
  have L2 := hide l2
  have L3 := hide l3
  have L4 := hide l4
  have L5 := hide l5
  have L7 := hide l7
  have L8 := hide l8
  have b1 : i ≤ n := by omega
  have b2 : mid ≤ n := by omega
  have b3 : en ≤ n := by omega
  have b4 : b ≤ n := by omega
  have b5 : md ≤ n := by omega
  clear hK hR l1 l2 l3 l4 l5 l7 l8
  have IH := hide ih
  have SU := hide sU
  have SV := hide sV
  have LD := hide ld
  have HR2 : Hid (trapK.RowAt 33 w (fun _ => False) g0 c ((pre ++ TS.mrg TK U1 V1) ++ (U2 ++ (V2 ++ post)))) := hide (by simpa using HR.out)
  clear ih sU sV ld
  by_cases h1 : md < en
  · by_cases h2 : en < b
    · go_wp2_with (go_at_call 61
                   refine (IH.out g0 c n md en b _ _ _ _ (pre ++ TS.mrg TK U1 V1) U2 V2 post _ hn HR2.out (by have L1 := L1.out; have L2 := L2.out; have L3 := L3.out; have L4 := L4.out; have L5 := L5.out; have L7 := L7.out; have L8 := L8.out; simp [TS.mrg_length]; omega) rfl (by have L1 := L1.out; have L2 := L2.out; have L3 := L3.out; have L4 := L4.out; have L5 := L5.out; have L7 := L7.out; have L8 := L8.out; rw [List.length_append, TS.mrg_length]; omega) (by have L1 := L1.out; have L2 := L2.out; have L3 := L3.out; have L4 := L4.out; have L5 := L5.out; have L7 := L7.out; have L8 := L8.out; omega) (by have L1 := L1.out; have L2 := L2.out; have L3 := L3.out; have L4 := L4.out; have L5 := L5.out; have L7 := L7.out; have L8 := L8.out; omega) SU.out SV.out (by have L1 := L1.out; have L2 := L2.out; have L3 := L3.out; have L4 := L4.out; have L5 := L5.out; have L7 := L7.out; have L8 := L8.out; omega) (by have L1 := L1.out; have L2 := L2.out; have L3 := L3.out; have L4 := L4.out; have L5 := L5.out; have L7 := L7.out; have L8 := L8.out; omega) LD.out rfl rfl rfl).mono ?_
                   rintro e w' ⟨rfl, q1, q2⟩
                   have Q1 := hide q1
                   have Q2 := hide q2
                   clear q1 q2)
      exact HK.out _ _ _ _ _ _ _ _ _ _ _ _ _ _ _ (by simpa using Q1.out) Q2.out
    · go_wp2_with fail
      refine HK.out _ _ _ _ _ _ _ _ _ _ _ _ _ _ _ ?_ (Kept.refl _ _)
      have hz : V2 = [] := List.eq_nil_of_length_eq_zero (by have L1 := L1.out; have L2 := L2.out; have L3 := L3.out; have L4 := L4.out; have L5 := L5.out; have L7 := L7.out; have L8 := L8.out; omega)
      have hrow := HR.out
      subst hz; simpa [TS.mrg] using hrow
  · go_wp2_with fail
    refine HK.out _ _ _ _ _ _ _ _ _ _ _ _ _ _ _ ?_ (Kept.refl _ _)
    have hz : U2 = [] := List.eq_nil_of_length_eq_zero (by have L1 := L1.out; have L2 := L2.out; have L3 := L3.out; have L4 := L4.out; have L5 := L5.out; have L7 := L7.out; have L8 := L8.out; omega)
    have hrow := HR.out
    subst hz; rw [TS.mrg_nil SV.out]; simpa using hrow
end Go.Proofs.Ytpndigonlgnbeaa
