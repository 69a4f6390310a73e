/- Region 20 of the document's Step: what it does, in each of its orders. -/
import Derived.Test.YtjflokgplehfgaaW12
import Derived.Test.YtjflokgplehfgaaQ3
import Derived.Test.YtjflokgplehfgaaGxOrd
import Derived.WalkKit
import Derived.WalkSpells
set_option linter.unusedVariables false
set_option linter.unusedSimpArgs false
namespace Go.Proofs.Ytjflokgplehfgaa
open Go.RowKit Go.Gx Go.Gx.Ans
set_option maxRecDepth 100000
noncomputable def rg20 : Array Oper := regOf Try.f14 20
set_option maxHeartbeats 4000000 in
theorem reg20L {ops : Array Oper} {w0 w : World} {D : Nat → Prop} {R : List Ent} {Q : Exit → Act → World → Prop} {bm bo bs : Nat} {x1 x2 x3 : Ent} {zs : List Value} {r p a1 a2 l1 l2 c a3 l3 : Int} {t a4 l4 : ByteArray} {a5 l5 : Bool} {v0 v1 v3 v5 v6 v7 v8 v10 v11 v12 v13 v14 v15 v16 v17 v18 v19 v20 v21 v22 v23 v24 v25 v26 v27 v28 v29 v30 v31 v32 v33 v34 v35 v36 v37 v38 v39 v40 v41 v42 v43 v44 v45 v46 v47 v48 v49 v50 v51 v52 v53 v54 v55 v56 v57 v58 v59 v60 v61 v62 v63 v64 v65 v66 v67 v68 v69 v70 v71 v72 v73 v74 v75 v76 v77 v78 v79 v80 v81 v82 v83 v84 v85 v86 v87 v88 v89 v90 v91 v92 v93 v94 v95 v96 v97 v98 v99 v100 v101 v102 v103 v104 v105 v106 v107 v108 v109 v110 v111 v112 v113 v114 v115 v116 v117 v118 v119 v120 : Value}
    (hops : ops = rg20) (hz : zs.length = 9)
    (H : Hp w0 D (⟨some bm, [.int .i64 l1, .int .i64 l2, .int .u64 l3, .string l4, .bool l5], 27, 5⟩ :: x1 :: x2 :: ⟨some bo, zs, 29, 9⟩ :: x3 :: ⟨some bs, [.int .i64 r, .int .u64 c, .string t, .int .i64 p, .int .i64 a1, .int .i64 a2, .int .u64 a3, .string a4, .bool a5], 29, 9⟩ :: R) w)
    (k : ∀ b w', Hp w0 D (⟨some b, [.int .i64 (toR ⟨l1, l2, l3, l4, l5⟩), .int .i64 l1, .int .i64 l2, .int .u64 l3, .string l4, .bool l5], 40, 6⟩ :: ⟨some bm, [.int .i64 l1, .int .i64 l2, .int .u64 l3, .string l4, .bool l5], 27, 5⟩ :: x1 :: x2 :: ⟨some bo, [.int .i64 r, .int .u64 c, .string t, .int .i64 p, .int .i64 a1, .int .i64 a2, .int .u64 a3, .string a4, .bool a5], 29, 9⟩ :: x3 :: ⟨some bs, [.int .i64 r, .int .u64 c, .string t, .int .i64 p, .int .i64 a1, .int .i64 a2, .int .u64 a3, .string a4, .bool a5], 29, 9⟩ :: R) w' → Q .normal ⟨#[v0, v1, .pointer (some ⟨bs, 0, none⟩), v3, .pointer (some ⟨bo, 0, none⟩), .slice (some ⟨b, 0, none⟩) 1 1, v6, v7, v8, .pointer (some ⟨bm, 0, none⟩), v10, v11, v12, v13, v14, v15, v16, v17, v18, v19, v20, v21, v22, v23, v24, v25, v26, v27, v28, v29, v30, v31, v32, v33, v34, v35, v36, v37, v38, v39, v40, v41, v42, v43, v44, v45, v46, v47, v48, v49, v50, v51, v52, v53, v54, v55, v56, v57, v58, v59, v60, v61, v62, v63, v64, v65, v66, v67, v68, v69, v70, v71, v72, v73, v74, v75, v76, v77, v78, v79, v80, v81, v82, v83, v84, v85, v86, v87, v88, v89, v90, v91, v92, v93, v94, v95, v96, v97, v98, v99, v100, v101, v102, v103, v104, v105, v106, v107, v108, v109, v110, v111, v112, v113, .agg (List.toArray [.int .i64 r, .int .u64 c, .string t, .int .i64 p, .int .i64 a1, .int .i64 a2, .int .u64 a3, .string a4, .bool a5]), .agg (List.toArray [.int .i64 l1, .int .i64 l2, .int .u64 l3, .string l4, .bool l5]), .int .i64 (toR ⟨l1, l2, l3, l4, l5⟩), .agg (List.toArray [.int .i64 l1, .int .i64 l2, .int .u64 l3, .string l4, .bool l5]), .agg (List.toArray [.int .i64 (toR ⟨l1, l2, l3, l4, l5⟩), .int .i64 l1, .int .i64 l2, .int .u64 l3, .string l4, .bool l5]), .slice (some ⟨b, 0, none⟩) 1 1, v120], []⟩ w') :
    Code.wp Try.prog (.region 20 ops true) Q ⟨#[v0, v1, .pointer (some ⟨bs, 0, none⟩), v3, .pointer (some ⟨bo, 0, none⟩), v5, v6, v7, v8, .pointer (some ⟨bm, 0, none⟩), v10, v11, v12, v13, v14, v15, v16, v17, v18, v19, v20, v21, v22, v23, v24, v25, v26, v27, v28, v29, v30, v31, v32, v33, v34, v35, v36, v37, v38, v39, v40, v41, v42, v43, v44, v45, v46, v47, v48, v49, v50, v51, v52, v53, v54, v55, v56, v57, v58, v59, v60, v61, v62, v63, v64, v65, v66, v67, v68, v69, v70, v71, v72, v73, v74, v75, v76, v77, v78, v79, v80, v81, v82, v83, v84, v85, v86, v87, v88, v89, v90, v91, v92, v93, v94, v95, v96, v97, v98, v99, v100, v101, v102, v103, v104, v105, v106, v107, v108, v109, v110, v111, v112, v113, v114, v115, v116, v117, v118, v119, v120], []⟩ w := by
  subst hops
  rw [show rg20 = List.toArray _ from rfl]
  refine wp_region_B (fun u => Hp w0 D (⟨some bm, [.int .i64 l1, .int .i64 l2, .int .u64 l3, .string l4, .bool l5], 27, 5⟩ :: ⟨some bs, [.int .i64 r, .int .u64 c, .string t, .int .i64 p, .int .i64 a1, .int .i64 a2, .int .u64 a3, .string a4, .bool a5], 29, 9⟩ :: R) u) rfl ?_
  replace H := H.drew
  have hl : lay zs 0 [.int .i64 r, .int .u64 c, .string t, .int .i64 p, .int .i64 a1, .int .i64 a2, .int .u64 a3, .string a4, .bool a5] = [.int .i64 r, .int .u64 c, .string t, .int .i64 p, .int .i64 a1, .int .i64 a2, .int .u64 a3, .string a4, .bool a5] := by simp [lay, hz]
  refine bTakeL 0 rfl (by decide +kernel) ((((H.dropAt 1).dropAt 1).dropAt 1).dropAt 1) rfl (fun u hu => run_ldA 1 hu rfl rfl rfl T29 (Nat.le_of_ble_eq_true rfl) rfl) ?_
  try simp only [Act.put, List.setIfInBounds_toArray, List.set_cons_succ, List.set_cons_zero]
  refine bTakeL 1 rfl (by decide +kernel) ((((H.dropAt 1).dropAt 1).dropAt 1).dropAt 1) rfl (fun u hu => run_ldA 0 hu rfl rfl rfl T27 (Nat.le_of_ble_eq_true rfl) rfl) ?_
  try simp only [Act.put, List.setIfInBounds_toArray, List.set_cons_succ, List.set_cons_zero]
  refine bTakeL 3 rfl (by decide +kernel) ((((H.dropAt 1).dropAt 1).dropAt 1).dropAt 1) rfl (fun u hu => run_ldA 0 hu rfl rfl rfl T27 (Nat.le_of_ble_eq_true rfl) rfl) ?_
  try simp only [Act.put, List.setIfInBounds_toArray, List.set_cons_succ, List.set_cons_zero]
  refine bOneL 2 (by decide +kernel) rfl rfl ?_
  intro K hK
  go_simp
  go_at_call 31
  refine (rTo_spec H ⟨l1, l2, l3, l4, l5⟩).mono ?_
  rintro e w1 ⟨rfl, H1⟩; clear H; have H := H1; clear H1
  (try simp only [])
  (refine hK _ _ ((((H.dropAt 1).dropAt 1).dropAt 1).dropAt 1) ?_); (clear hK K); (try simp only [Act.put, List.setIfInBounds_toArray, List.set_cons_succ, List.set_cons_zero])
  refine bTakeL 4 rfl (by decide +kernel) ((((H.dropAt 1).dropAt 1).dropAt 1).dropAt 1) rfl (by intro u hu; go_simp; rfl) ?_; (try simp only [Act.put, List.setIfInBounds_toArray, List.set_cons_succ, List.set_cons_zero])
  refine bTwoL 5 6 (by decide +kernel) rfl rfl rfl rfl ?_ ?_
  · intro K hK
    (refine oBs1 rfl S31 rfl (by decide) (by decide) H ?_); (clear H); (intro b w1 H); (refine hK _ _ (((((H.drop).dropAt 1).dropAt 1).dropAt 1).dropAt 1) ?_); (clear hK K); (try simp only [Act.put, List.setIfInBounds_toArray, List.set_cons_succ, List.set_cons_zero])
    refine bOneL 6 (by decide +kernel) rfl rfl ?_
    intro K hK
    (refine oSt H rfl ⟨.agg (List.toArray [.int .i64 r, .int .u64 c, .string t, .int .i64 p, .int .i64 a1, .int .i64 a2, .int .u64 a3, .string a4, .bool a5]), rfl, kStA 4 rfl rfl T29 rfl rfl (by show 0 + 9 ≤ zs.length; omega) ?_⟩); (clear H); (intro w1 H); (simp only [List.set_cons_zero, List.set_cons_succ, hl] at H); (refine hK _ _ (((((H.drop).dropAt 1).dropAt 1).dropAt 1).dropAt 1) ?_); (clear hK K); (try simp only [Act.put, List.setIfInBounds_toArray, List.set_cons_succ, List.set_cons_zero])
    refine bTakeL 7 rfl (by decide +kernel) (((((H.drop).dropAt 1).dropAt 1).dropAt 1).dropAt 1) rfl (by intro u hu; go_simp; rfl) ?_; (try simp only [Act.put, List.setIfInBounds_toArray, List.set_cons_succ, List.set_cons_zero]); (refine bDone (by decide +kernel) ?_); exact k _ _ H
  · intro K hK
    (refine oSt H rfl ⟨.agg (List.toArray [.int .i64 r, .int .u64 c, .string t, .int .i64 p, .int .i64 a1, .int .i64 a2, .int .u64 a3, .string a4, .bool a5]), rfl, kStA 3 rfl rfl T29 rfl rfl (by show 0 + 9 ≤ zs.length; omega) ?_⟩); (clear H); (intro w1 H); (simp only [List.set_cons_zero, List.set_cons_succ, hl] at H); (refine hK _ _ ((((H.dropAt 1).dropAt 1).dropAt 1).dropAt 1) ?_); (clear hK K); (try simp only [Act.put, List.setIfInBounds_toArray, List.set_cons_succ, List.set_cons_zero])
    refine bOneL 5 (by decide +kernel) rfl rfl ?_
    intro K hK
    (refine oBs1 rfl S31 rfl (by decide) (by decide) H ?_); (clear H); (intro b w1 H); (refine hK _ _ (((((H.drop).dropAt 1).dropAt 1).dropAt 1).dropAt 1) ?_); (clear hK K); (try simp only [Act.put, List.setIfInBounds_toArray, List.set_cons_succ, List.set_cons_zero])
    refine bTakeL 7 rfl (by decide +kernel) (((((H.drop).dropAt 1).dropAt 1).dropAt 1).dropAt 1) rfl (by intro u hu; go_simp; rfl) ?_; (try simp only [Act.put, List.setIfInBounds_toArray, List.set_cons_succ, List.set_cons_zero]); (refine bDone (by decide +kernel) ?_); exact k _ _ H
end Go.Proofs.Ytjflokgplehfgaa
