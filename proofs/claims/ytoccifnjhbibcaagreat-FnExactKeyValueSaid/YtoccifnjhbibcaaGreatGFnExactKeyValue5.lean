/- Functions that the statement reaches, as Lean functions, and the proof that a call of each comes to just its answer; written by this claim's own program. No conditions. -/
import Derived.Test.YtoccifnjhbibcaaGreatGFnExactKeyValue4
namespace Go.Proofs.YtoccifnjhbibcaaGreat.PFnExactKeyValue
open Tryz
open Go.RowKit Go.Proofs.YtoccifnjhbibcaaGreatW.PrintWords Go.Proofs.YtoccifnjhbibcaaGreatW.PrintLast Go.Proofs.YtoccifnjhbibcaaGreatW.PrintMore Go.Proofs.YtoccifnjhbibcaaGreat.XW Go.Proofs.YtoccifnjhbibcaaGreat.XOp Go.Proofs.YtoccifnjhbibcaaGreat.XSt Go.Proofs.YtoccifnjhbibcaaGreat.XDraw
set_option linter.unusedVariables false
set_option linter.unusedSimpArgs false
set_option maxHeartbeats 4000000
set_option maxRecDepth 20000
theorem laws_markLayerS.leaf (A : Option Addr) (n c : Nat) (z : Int) (L : List Addr) (w : World) (h : XLeaf.RowLv w (.both (.row .int) (.both (.both .int (.both (.row (.row .int)) (.both (.row (.row .int)) (.both .int .int)))) (.both (.both .int (.both (.row (.row .int)) (.both (.row (.row .int)) (.both .int .int)))) (.both (.both .int (.both (.row (.row .int)) (.both (.row (.row .int)) (.both .int .int)))) (.both (.both .int (.both (.row (.row .int)) (.both (.row (.row .int)) (.both .int .int)))) (.both (.row .int) (.both (.both .int (.both (.row (.row .int)) (.both (.row (.row .int)) (.both .int .int)))) (.both .int (.both (.row (.row .int)) (.both (.row (.row .int)) (.both .int .int))))))))))) A n L) (h0 : 0 ≤ z) (h1 : z + (L.length : Int) ≤ 4611686018427387904) (r : Int) (hr0 : r = z + (L.length : Int)) :
   Calls prog 81 #[.slice A n c, vi z] w fun e w' => e = .returned (vi r) ∧ XLeaf.Marked L z w w' := by
 obtain ⟨f, rfl, HJ⟩ := MkJ.start h h0 h1
 clear h h0
 refine cw_ (n := 267) func81 fun R_ hR_ => ?_
 refine WC.seq fun _ hKa => ?_
 refine rg_ ?_
 refine as_ ?_
 refine WL.done ?_
 refine via_ hKa ?_
 refine WC.seq fun _ hKb => ?_
 refine WC.seq fun _ hKc => ?_
 refine rg_ ?_
 refine as_ ?_
 refine WL.done ?_
 refine via_ hKc ?_
 refine WC.block ?_
 refine WC.loop (fun k_ E_ W_ => ∃ (j : Nat) (y : Int), k_ + j = n ∧ E_ = [(0, .slice A n c), (1, vi y), (5, vi (j : Int))] ∧ MkJ w W_ z (.both (.row .int) (.both (.both .int (.both (.row (.row .int)) (.both (.row (.row .int)) (.both .int .int)))) (.both (.both .int (.both (.row (.row .int)) (.both (.row (.row .int)) (.both .int .int)))) (.both (.both .int (.both (.row (.row .int)) (.both (.row (.row .int)) (.both .int .int)))) (.both (.both .int (.both (.row (.row .int)) (.both (.row (.row .int)) (.both .int .int)))) (.both (.row .int) (.both (.both .int (.both (.row (.row .int)) (.both (.row (.row .int)) (.both .int .int)))) (.both .int (.both (.row (.row .int)) (.both (.row (.row .int)) (.both .int .int))))))))))) A n f j y) n ⟨0, z, rfl, rfl, HJ⟩ (sb rfl) ?_
 rintro k_ E_ W ⟨j, y, hk, rfl, HJ⟩
 refine WC.seq fun _ hKd => ?_
 refine WC.seq fun _ hKe => ?_
 refine rg_ ?_
 refine mv_ ?_
 refine mv_ ?_
 refine ln_ underlying27 ?_
 refine b_ bin_lss ?_
 refine WL.done ?_
 refine via_ hKe ?_
 by_cases hlt : (j : Int) < (n : Int)
 · refine wy_ (dT hlt) (WC.skip (via_ hKd ?_))
   obtain ⟨k1, rfl⟩ : ∃ k1, k_ = k1 + 1 := ⟨k_ - 1, by omega⟩
   obtain ⟨g, Ls, rfl, hj1, he, HI⟩ := HJ.round (by omega)
   refine WC.seq fun _ hK1 => ?_
   refine WC.block ?_
   refine WC.seq fun _ hK2 => ?_
   refine rg_ ?_
   refine mv_ ?_
   refine mv_ ?_
   refine v_ (Run.eqv (ptr_at g j 32) (ia_ underlying27 32 (Int.natCast_nonneg _) hlt)) ?_
   refine v_ (Run.fieldAddr rfl rfl underlying118 rfl (by kernel_rfl) (Addr.add_mid _ _ _)) ?_
   have h0_ := HI.y0
   obtain ⟨L3, A4, n5, c6, y7, hc8, hR9, hB10, hy11, hI12⟩ := HI.row (i := 0) rfl
   refine v_ (Run.load rfl rfl underlying28 rfl hc8) ?_
   refine mv_ ?_
   refine c_ func25 (laws_markIntS.leaf A4 n5 c6 y L3 _ hR9 h0_ hB10 y7 hy11) ?_
   rintro _ W14 ⟨rfl, hm_⟩
   replace HI := hI12 W14 hm_
   clear h0_ hm_ hI12 hR9 hB10 hy11
   refine ⟨_, rfl, ?_⟩
   refine as_ ?_
   refine WL.done ?_
   refine via_ hK2 ?_
   refine WC.seq fun _ hK15 => ?_
   refine rg_ ?_
   refine mv_ ?_
   refine mv_ ?_
   refine mv_ ?_
   refine v_ (Run.eqv (ptr_at g j 32) (ia_ underlying27 32 (Int.natCast_nonneg _) hlt)) ?_
   refine v_ (Run.fieldAddr rfl rfl underlying118 rfl (by kernel_rfl) (Addr.add_mid _ _ _)) ?_
   refine v_ (Run.fieldAddr rfl rfl underlying30 rfl (by kernel_rfl) (Addr.add_mid _ _ _)) ?_
   refine WL.mset 1 HI rfl rfl (fun W18 y16 hw17 HI => ?_)
   refine WL.done ?_
   refine via_ hK15 ?_
   refine WC.seq fun _ hK19 => ?_
   refine rg_ ?_
   refine mv_ ?_
   refine b_ bin_add64 ?_
   rw [hw17]
   clear hw17
   refine as_ ?_
   refine WL.done ?_
   refine via_ hK19 ?_
   refine WC.seq fun _ hK20 => ?_
   refine rg_ ?_
   refine mv_ ?_
   refine mv_ ?_
   refine v_ (Run.eqv (ptr_at g j 32) (ia_ underlying27 32 (Int.natCast_nonneg _) hlt)) ?_
   refine v_ (Run.fieldAddr rfl rfl underlying118 rfl (by kernel_rfl) (Addr.add_mid _ _ _)) ?_
   refine v_ (Run.fieldAddr rfl rfl underlying30 rfl (by kernel_rfl) (Addr.add_mid _ _ _)) ?_
   have h0_ := HI.y0
   obtain ⟨L21, A22, n23, c24, y25, hc26, hR27, hB28, hy29, hI30⟩ := HI.row (i := 2) rfl
   refine v_ (Run.load rfl rfl underlying26 rfl hc26) ?_
   refine mv_ ?_
   refine c_ func80 (laws_markIntSS.leaf A22 n23 c24 y16 L21 _ hR27 h0_ hB28 y25 hy29) ?_
   rintro _ W32 ⟨rfl, hm_⟩
   replace HI := hI30 W32 hm_
   clear h0_ hm_ hI30 hR27 hB28 hy29
   refine ⟨_, rfl, ?_⟩
   refine as_ ?_
   refine WL.done ?_
   refine via_ hK20 ?_
   refine WC.seq fun _ hK33 => ?_
   refine rg_ ?_
   refine mv_ ?_
   refine mv_ ?_
   refine v_ (Run.eqv (ptr_at g j 32) (ia_ underlying27 32 (Int.natCast_nonneg _) hlt)) ?_
   refine v_ (Run.fieldAddr rfl rfl underlying118 rfl (by kernel_rfl) (Addr.add_mid _ _ _)) ?_
   refine v_ (Run.fieldAddr rfl rfl underlying30 rfl (by kernel_rfl) (Addr.add_mid _ _ _)) ?_
   have h0_ := HI.y0
   obtain ⟨L34, A35, n36, c37, y38, hc39, hR40, hB41, hy42, hI43⟩ := HI.row (i := 3) rfl
   refine v_ (Run.load rfl rfl underlying26 rfl hc39) ?_
   refine mv_ ?_
   refine c_ func80 (laws_markIntSS.leaf A35 n36 c37 y25 L34 _ hR40 h0_ hB41 y38 hy42) ?_
   rintro _ W45 ⟨rfl, hm_⟩
   replace HI := hI43 W45 hm_
   clear h0_ hm_ hI43 hR40 hB41 hy42
   refine ⟨_, rfl, ?_⟩
   refine as_ ?_
   refine WL.done ?_
   refine via_ hK33 ?_
   refine WC.seq fun _ hK46 => ?_
   refine rg_ ?_
   refine mv_ ?_
   refine mv_ ?_
   refine mv_ ?_
   refine v_ (Run.eqv (ptr_at g j 32) (ia_ underlying27 32 (Int.natCast_nonneg _) hlt)) ?_
   refine v_ (Run.fieldAddr rfl rfl underlying118 rfl (by kernel_rfl) (Addr.add_mid _ _ _)) ?_
   refine v_ (Run.fieldAddr rfl rfl underlying30 rfl (by kernel_rfl) (Addr.add_mid _ _ _)) ?_
   refine WL.mset 4 HI rfl rfl (fun W49 y47 hw48 HI => ?_)
   refine WL.done ?_
   refine via_ hK46 ?_
   refine WC.seq fun _ hK50 => ?_
   refine rg_ ?_
   refine mv_ ?_
   refine b_ bin_add64 ?_
   rw [hw48]
   clear hw48
   refine as_ ?_
   refine WL.done ?_
   refine via_ hK50 ?_
   refine WC.seq fun _ hK51 => ?_
   refine rg_ ?_
   refine mv_ ?_
   refine mv_ ?_
   refine mv_ ?_
   refine v_ (Run.eqv (ptr_at g j 32) (ia_ underlying27 32 (Int.natCast_nonneg _) hlt)) ?_
   refine v_ (Run.fieldAddr rfl rfl underlying118 rfl (by kernel_rfl) (Addr.add_mid _ _ _)) ?_
   refine v_ (Run.fieldAddr rfl rfl underlying30 rfl (by kernel_rfl) (Addr.add_mid _ _ _)) ?_
   refine WL.mset 5 HI rfl rfl (fun W54 y52 hw53 HI => ?_)
   refine WL.done ?_
   refine via_ hK51 ?_
   refine WC.seq fun _ hK55 => ?_
   refine rg_ ?_
   refine mv_ ?_
   refine b_ bin_add64 ?_
   rw [hw53]
   clear hw53
   refine as_ ?_
   refine WL.done ?_
   refine via_ hK55 ?_
   refine WC.seq fun _ hK56 => ?_
   refine rg_ ?_
   refine mv_ ?_
   refine mv_ ?_
   refine mv_ ?_
   refine v_ (Run.eqv (ptr_at g j 32) (ia_ underlying27 32 (Int.natCast_nonneg _) hlt)) ?_
   refine v_ (Run.fieldAddr rfl rfl underlying118 rfl (by kernel_rfl) (Addr.add_mid _ _ _)) ?_
   refine v_ (Run.fieldAddr rfl rfl underlying30 rfl (by kernel_rfl) (Addr.add_mid _ _ _)) ?_
   refine WL.mset 6 HI rfl rfl (fun W59 y57 hw58 HI => ?_)
   refine WL.done ?_
   refine via_ hK56 ?_
   refine WC.seq fun _ hK60 => ?_
   refine rg_ ?_
   refine mv_ ?_
   refine b_ bin_add64 ?_
   rw [hw58]
   clear hw58
   refine as_ ?_
   refine WL.done ?_
   refine via_ hK60 ?_
   refine WC.seq fun _ hK61 => ?_
   refine rg_ ?_
   refine mv_ ?_
   refine mv_ ?_
   refine v_ (Run.eqv (ptr_at g j 32) (ia_ underlying27 32 (Int.natCast_nonneg _) hlt)) ?_
   refine v_ (Run.fieldAddr rfl rfl underlying118 rfl (by kernel_rfl) (Addr.add_mid _ _ _)) ?_
   refine v_ (Run.fieldAddr rfl rfl underlying30 rfl (by kernel_rfl) (Addr.add_mid _ _ _)) ?_
   have h0_ := HI.y0
   obtain ⟨L62, A63, n64, c65, y66, hc67, hR68, hB69, hy70, hI71⟩ := HI.row (i := 7) rfl
   refine v_ (Run.load rfl rfl underlying26 rfl hc67) ?_
   refine mv_ ?_
   refine c_ func80 (laws_markIntSS.leaf A63 n64 c65 y57 L62 _ hR68 h0_ hB69 y66 hy70) ?_
   rintro _ W73 ⟨rfl, hm_⟩
   replace HI := hI71 W73 hm_
   clear h0_ hm_ hI71 hR68 hB69 hy70
   refine ⟨_, rfl, ?_⟩
   refine as_ ?_
   refine WL.done ?_
   refine via_ hK61 ?_
   refine WC.seq fun _ hK74 => ?_
   refine rg_ ?_
   refine mv_ ?_
   refine mv_ ?_
   refine v_ (Run.eqv (ptr_at g j 32) (ia_ underlying27 32 (Int.natCast_nonneg _) hlt)) ?_
   refine v_ (Run.fieldAddr rfl rfl underlying118 rfl (by kernel_rfl) (Addr.add_mid _ _ _)) ?_
   refine v_ (Run.fieldAddr rfl rfl underlying30 rfl (by kernel_rfl) (Addr.add_mid _ _ _)) ?_
   have h0_ := HI.y0
   obtain ⟨L75, A76, n77, c78, y79, hc80, hR81, hB82, hy83, hI84⟩ := HI.row (i := 8) rfl
   refine v_ (Run.load rfl rfl underlying26 rfl hc80) ?_
   refine mv_ ?_
   refine c_ func80 (laws_markIntSS.leaf A76 n77 c78 y66 L75 _ hR81 h0_ hB82 y79 hy83) ?_
   rintro _ W86 ⟨rfl, hm_⟩
   replace HI := hI84 W86 hm_
   clear h0_ hm_ hI84 hR81 hB82 hy83
   refine ⟨_, rfl, ?_⟩
   refine as_ ?_
   refine WL.done ?_
   refine via_ hK74 ?_
   refine WC.seq fun _ hK87 => ?_
   refine rg_ ?_
   refine mv_ ?_
   refine mv_ ?_
   refine mv_ ?_
   refine v_ (Run.eqv (ptr_at g j 32) (ia_ underlying27 32 (Int.natCast_nonneg _) hlt)) ?_
   refine v_ (Run.fieldAddr rfl rfl underlying118 rfl (by kernel_rfl) (Addr.add_mid _ _ _)) ?_
   refine v_ (Run.fieldAddr rfl rfl underlying30 rfl (by kernel_rfl) (Addr.add_mid _ _ _)) ?_
   refine WL.mset 9 HI rfl rfl (fun W90 y88 hw89 HI => ?_)
   refine WL.done ?_
   refine via_ hK87 ?_
   refine WC.seq fun _ hK91 => ?_
   refine rg_ ?_
   refine mv_ ?_
   refine b_ bin_add64 ?_
   rw [hw89]
   clear hw89
   refine as_ ?_
   refine WL.done ?_
   refine via_ hK91 ?_
   refine WC.seq fun _ hK92 => ?_
   refine rg_ ?_
   refine mv_ ?_
   refine mv_ ?_
   refine mv_ ?_
   refine v_ (Run.eqv (ptr_at g j 32) (ia_ underlying27 32 (Int.natCast_nonneg _) hlt)) ?_
   refine v_ (Run.fieldAddr rfl rfl underlying118 rfl (by kernel_rfl) (Addr.add_mid _ _ _)) ?_
   refine v_ (Run.fieldAddr rfl rfl underlying30 rfl (by kernel_rfl) (Addr.add_mid _ _ _)) ?_
   refine WL.mset 10 HI rfl rfl (fun W95 y93 hw94 HI => ?_)
   refine WL.done ?_
   refine via_ hK92 ?_
   refine WC.seq fun _ hK96 => ?_
   refine rg_ ?_
   refine mv_ ?_
   refine b_ bin_add64 ?_
   rw [hw94]
   clear hw94
   refine as_ ?_
   refine WL.done ?_
   refine via_ hK96 ?_
   refine WC.seq fun _ hK97 => ?_
   refine rg_ ?_
   refine mv_ ?_
   refine mv_ ?_
   refine mv_ ?_
   refine v_ (Run.eqv (ptr_at g j 32) (ia_ underlying27 32 (Int.natCast_nonneg _) hlt)) ?_
   refine v_ (Run.fieldAddr rfl rfl underlying118 rfl (by kernel_rfl) (Addr.add_mid _ _ _)) ?_
   refine v_ (Run.fieldAddr rfl rfl underlying30 rfl (by kernel_rfl) (Addr.add_mid _ _ _)) ?_
   refine WL.mset 11 HI rfl rfl (fun W100 y98 hw99 HI => ?_)
   refine WL.done ?_
   refine via_ hK97 ?_
   refine WC.seq fun _ hK101 => ?_
   refine rg_ ?_
   refine mv_ ?_
   refine b_ bin_add64 ?_
   rw [hw99]
   clear hw99
   refine as_ ?_
   refine WL.done ?_
   refine via_ hK101 ?_
   refine WC.seq fun _ hK102 => ?_
   refine rg_ ?_
   refine mv_ ?_
   refine mv_ ?_
   refine v_ (Run.eqv (ptr_at g j 32) (ia_ underlying27 32 (Int.natCast_nonneg _) hlt)) ?_
   refine v_ (Run.fieldAddr rfl rfl underlying118 rfl (by kernel_rfl) (Addr.add_mid _ _ _)) ?_
   refine v_ (Run.fieldAddr rfl rfl underlying30 rfl (by kernel_rfl) (Addr.add_mid _ _ _)) ?_
   have h0_ := HI.y0
   obtain ⟨L103, A104, n105, c106, y107, hc108, hR109, hB110, hy111, hI112⟩ := HI.row (i := 12) rfl
   refine v_ (Run.load rfl rfl underlying26 rfl hc108) ?_
   refine mv_ ?_
   refine c_ func80 (laws_markIntSS.leaf A104 n105 c106 y98 L103 _ hR109 h0_ hB110 y107 hy111) ?_
   rintro _ W114 ⟨rfl, hm_⟩
   replace HI := hI112 W114 hm_
   clear h0_ hm_ hI112 hR109 hB110 hy111
   refine ⟨_, rfl, ?_⟩
   refine as_ ?_
   refine WL.done ?_
   refine via_ hK102 ?_
   refine WC.seq fun _ hK115 => ?_
   refine rg_ ?_
   refine mv_ ?_
   refine mv_ ?_
   refine v_ (Run.eqv (ptr_at g j 32) (ia_ underlying27 32 (Int.natCast_nonneg _) hlt)) ?_
   refine v_ (Run.fieldAddr rfl rfl underlying118 rfl (by kernel_rfl) (Addr.add_mid _ _ _)) ?_
   refine v_ (Run.fieldAddr rfl rfl underlying30 rfl (by kernel_rfl) (Addr.add_mid _ _ _)) ?_
   have h0_ := HI.y0
   obtain ⟨L116, A117, n118, c119, y120, hc121, hR122, hB123, hy124, hI125⟩ := HI.row (i := 13) rfl
   refine v_ (Run.load rfl rfl underlying26 rfl hc121) ?_
   refine mv_ ?_
   refine c_ func80 (laws_markIntSS.leaf A117 n118 c119 y107 L116 _ hR122 h0_ hB123 y120 hy124) ?_
   rintro _ W127 ⟨rfl, hm_⟩
   replace HI := hI125 W127 hm_
   clear h0_ hm_ hI125 hR122 hB123 hy124
   refine ⟨_, rfl, ?_⟩
   refine as_ ?_
   refine WL.done ?_
   refine via_ hK115 ?_
   refine WC.seq fun _ hK128 => ?_
   refine rg_ ?_
   refine mv_ ?_
   refine mv_ ?_
   refine mv_ ?_
   refine v_ (Run.eqv (ptr_at g j 32) (ia_ underlying27 32 (Int.natCast_nonneg _) hlt)) ?_
   refine v_ (Run.fieldAddr rfl rfl underlying118 rfl (by kernel_rfl) (Addr.add_mid _ _ _)) ?_
   refine v_ (Run.fieldAddr rfl rfl underlying30 rfl (by kernel_rfl) (Addr.add_mid _ _ _)) ?_
   refine WL.mset 14 HI rfl rfl (fun W131 y129 hw130 HI => ?_)
   refine WL.done ?_
   refine via_ hK128 ?_
   refine WC.seq fun _ hK132 => ?_
   refine rg_ ?_
   refine mv_ ?_
   refine b_ bin_add64 ?_
   rw [hw130]
   clear hw130
   refine as_ ?_
   refine WL.done ?_
   refine via_ hK132 ?_
   refine WC.seq fun _ hK133 => ?_
   refine rg_ ?_
   refine mv_ ?_
   refine mv_ ?_
   refine mv_ ?_
   refine v_ (Run.eqv (ptr_at g j 32) (ia_ underlying27 32 (Int.natCast_nonneg _) hlt)) ?_
   refine v_ (Run.fieldAddr rfl rfl underlying118 rfl (by kernel_rfl) (Addr.add_mid _ _ _)) ?_
   refine v_ (Run.fieldAddr rfl rfl underlying30 rfl (by kernel_rfl) (Addr.add_mid _ _ _)) ?_
   refine WL.mset 15 HI rfl rfl (fun W136 y134 hw135 HI => ?_)
   refine WL.done ?_
   refine via_ hK133 ?_
   refine WC.seq fun _ hK137 => ?_
   refine rg_ ?_
   refine mv_ ?_
   refine b_ bin_add64 ?_
   rw [hw135]
   clear hw135
   refine as_ ?_
   refine WL.done ?_
   refine via_ hK137 ?_
   refine WC.seq fun _ hK138 => ?_
   refine rg_ ?_
   refine mv_ ?_
   refine mv_ ?_
   refine mv_ ?_
   refine v_ (Run.eqv (ptr_at g j 32) (ia_ underlying27 32 (Int.natCast_nonneg _) hlt)) ?_
   refine v_ (Run.fieldAddr rfl rfl underlying118 rfl (by kernel_rfl) (Addr.add_mid _ _ _)) ?_
   refine v_ (Run.fieldAddr rfl rfl underlying30 rfl (by kernel_rfl) (Addr.add_mid _ _ _)) ?_
   refine WL.mset 16 HI rfl rfl (fun W141 y139 hw140 HI => ?_)
   refine WL.done ?_
   refine via_ hK138 ?_
   refine WC.seq fun _ hK142 => ?_
   refine rg_ ?_
   refine mv_ ?_
   refine b_ bin_add64 ?_
   rw [hw140]
   clear hw140
   refine as_ ?_
   refine WL.done ?_
   refine via_ hK142 ?_
   refine WC.seq fun _ hK143 => ?_
   refine rg_ ?_
   refine mv_ ?_
   refine mv_ ?_
   refine v_ (Run.eqv (ptr_at g j 32) (ia_ underlying27 32 (Int.natCast_nonneg _) hlt)) ?_
   refine v_ (Run.fieldAddr rfl rfl underlying118 rfl (by kernel_rfl) (Addr.add_mid _ _ _)) ?_
   refine v_ (Run.fieldAddr rfl rfl underlying30 rfl (by kernel_rfl) (Addr.add_mid _ _ _)) ?_
   have h0_ := HI.y0
   obtain ⟨L144, A145, n146, c147, y148, hc149, hR150, hB151, hy152, hI153⟩ := HI.row (i := 17) rfl
   refine v_ (Run.load rfl rfl underlying26 rfl hc149) ?_
   refine mv_ ?_
   refine c_ func80 (laws_markIntSS.leaf A145 n146 c147 y139 L144 _ hR150 h0_ hB151 y148 hy152) ?_
   rintro _ W155 ⟨rfl, hm_⟩
   replace HI := hI153 W155 hm_
   clear h0_ hm_ hI153 hR150 hB151 hy152
   refine ⟨_, rfl, ?_⟩
   refine as_ ?_
   refine WL.done ?_
   refine via_ hK143 ?_
   refine WC.seq fun _ hK156 => ?_
   refine rg_ ?_
   refine mv_ ?_
   refine mv_ ?_
   refine v_ (Run.eqv (ptr_at g j 32) (ia_ underlying27 32 (Int.natCast_nonneg _) hlt)) ?_
   refine v_ (Run.fieldAddr rfl rfl underlying118 rfl (by kernel_rfl) (Addr.add_mid _ _ _)) ?_
   refine v_ (Run.fieldAddr rfl rfl underlying30 rfl (by kernel_rfl) (Addr.add_mid _ _ _)) ?_
   have h0_ := HI.y0
   obtain ⟨L157, A158, n159, c160, y161, hc162, hR163, hB164, hy165, hI166⟩ := HI.row (i := 18) rfl
   refine v_ (Run.load rfl rfl underlying26 rfl hc162) ?_
   refine mv_ ?_
   refine c_ func80 (laws_markIntSS.leaf A158 n159 c160 y148 L157 _ hR163 h0_ hB164 y161 hy165) ?_
   rintro _ W168 ⟨rfl, hm_⟩
   replace HI := hI166 W168 hm_
   clear h0_ hm_ hI166 hR163 hB164 hy165
   refine ⟨_, rfl, ?_⟩
   refine as_ ?_
   refine WL.done ?_
   refine via_ hK156 ?_
   refine WC.seq fun _ hK169 => ?_
   refine rg_ ?_
   refine mv_ ?_
   refine mv_ ?_
   refine mv_ ?_
   refine v_ (Run.eqv (ptr_at g j 32) (ia_ underlying27 32 (Int.natCast_nonneg _) hlt)) ?_
   refine v_ (Run.fieldAddr rfl rfl underlying118 rfl (by kernel_rfl) (Addr.add_mid _ _ _)) ?_
   refine v_ (Run.fieldAddr rfl rfl underlying30 rfl (by kernel_rfl) (Addr.add_mid _ _ _)) ?_
   refine WL.mset 19 HI rfl rfl (fun W172 y170 hw171 HI => ?_)
   refine WL.done ?_
   refine via_ hK169 ?_
   refine WC.seq fun _ hK173 => ?_
   refine rg_ ?_
   refine mv_ ?_
   refine b_ bin_add64 ?_
   rw [hw171]
   clear hw171
   refine as_ ?_
   refine WL.done ?_
   refine via_ hK173 ?_
   refine WC.seq fun _ hK174 => ?_
   refine rg_ ?_
   refine mv_ ?_
   refine mv_ ?_
   refine mv_ ?_
   refine v_ (Run.eqv (ptr_at g j 32) (ia_ underlying27 32 (Int.natCast_nonneg _) hlt)) ?_
   refine v_ (Run.fieldAddr rfl rfl underlying118 rfl (by kernel_rfl) (Addr.add_mid _ _ _)) ?_
   refine v_ (Run.fieldAddr rfl rfl underlying30 rfl (by kernel_rfl) (Addr.add_mid _ _ _)) ?_
   refine WL.mset 20 HI rfl rfl (fun W177 y175 hw176 HI => ?_)
   refine WL.done ?_
   refine via_ hK174 ?_
   refine WC.seq fun _ hK178 => ?_
   refine rg_ ?_
   refine mv_ ?_
   refine b_ bin_add64 ?_
   rw [hw176]
   clear hw176
   refine as_ ?_
   refine WL.done ?_
   refine via_ hK178 ?_
   refine WC.seq fun _ hK179 => ?_
   refine rg_ ?_
   refine mv_ ?_
   refine mv_ ?_
   refine v_ (Run.eqv (ptr_at g j 32) (ia_ underlying27 32 (Int.natCast_nonneg _) hlt)) ?_
   refine v_ (Run.fieldAddr rfl rfl underlying118 rfl (by kernel_rfl) (Addr.add_mid _ _ _)) ?_
   have h0_ := HI.y0
   obtain ⟨L180, A181, n182, c183, y184, hc185, hR186, hB187, hy188, hI189⟩ := HI.row (i := 21) rfl
   refine v_ (Run.load rfl rfl underlying28 rfl hc185) ?_
   refine mv_ ?_
   refine c_ func25 (laws_markIntS.leaf A181 n182 c183 y175 L180 _ hR186 h0_ hB187 y184 hy188) ?_
   rintro _ W191 ⟨rfl, hm_⟩
   replace HI := hI189 W191 hm_
   clear h0_ hm_ hI189 hR186 hB187 hy188
   refine ⟨_, rfl, ?_⟩
   refine as_ ?_
   refine WL.done ?_
   refine via_ hK179 ?_
   refine WC.seq fun _ hK192 => ?_
   refine rg_ ?_
   refine mv_ ?_
   refine mv_ ?_
   refine mv_ ?_
   refine v_ (Run.eqv (ptr_at g j 32) (ia_ underlying27 32 (Int.natCast_nonneg _) hlt)) ?_
   refine v_ (Run.fieldAddr rfl rfl underlying118 rfl (by kernel_rfl) (Addr.add_mid _ _ _)) ?_
   refine v_ (Run.fieldAddr rfl rfl underlying30 rfl (by kernel_rfl) (Addr.add_mid _ _ _)) ?_
   refine WL.mset 22 HI rfl rfl (fun W195 y193 hw194 HI => ?_)
   refine WL.done ?_
   refine via_ hK192 ?_
   refine WC.seq fun _ hK196 => ?_
   refine rg_ ?_
   refine mv_ ?_
   refine b_ bin_add64 ?_
   rw [hw194]
   clear hw194
   refine as_ ?_
   refine WL.done ?_
   refine via_ hK196 ?_
   refine WC.seq fun _ hK197 => ?_
   refine rg_ ?_
   refine mv_ ?_
   refine mv_ ?_
   refine v_ (Run.eqv (ptr_at g j 32) (ia_ underlying27 32 (Int.natCast_nonneg _) hlt)) ?_
   refine v_ (Run.fieldAddr rfl rfl underlying118 rfl (by kernel_rfl) (Addr.add_mid _ _ _)) ?_
   refine v_ (Run.fieldAddr rfl rfl underlying30 rfl (by kernel_rfl) (Addr.add_mid _ _ _)) ?_
   have h0_ := HI.y0
   obtain ⟨L198, A199, n200, c201, y202, hc203, hR204, hB205, hy206, hI207⟩ := HI.row (i := 23) rfl
   refine v_ (Run.load rfl rfl underlying26 rfl hc203) ?_
   refine mv_ ?_
   refine c_ func80 (laws_markIntSS.leaf A199 n200 c201 y193 L198 _ hR204 h0_ hB205 y202 hy206) ?_
   rintro _ W209 ⟨rfl, hm_⟩
   replace HI := hI207 W209 hm_
   clear h0_ hm_ hI207 hR204 hB205 hy206
   refine ⟨_, rfl, ?_⟩
   refine as_ ?_
   refine WL.done ?_
   refine via_ hK197 ?_
   refine WC.seq fun _ hK210 => ?_
   refine rg_ ?_
   refine mv_ ?_
   refine mv_ ?_
   refine v_ (Run.eqv (ptr_at g j 32) (ia_ underlying27 32 (Int.natCast_nonneg _) hlt)) ?_
   refine v_ (Run.fieldAddr rfl rfl underlying118 rfl (by kernel_rfl) (Addr.add_mid _ _ _)) ?_
   refine v_ (Run.fieldAddr rfl rfl underlying30 rfl (by kernel_rfl) (Addr.add_mid _ _ _)) ?_
   have h0_ := HI.y0
   obtain ⟨L211, A212, n213, c214, y215, hc216, hR217, hB218, hy219, hI220⟩ := HI.row (i := 24) rfl
   refine v_ (Run.load rfl rfl underlying26 rfl hc216) ?_
   refine mv_ ?_
   refine c_ func80 (laws_markIntSS.leaf A212 n213 c214 y202 L211 _ hR217 h0_ hB218 y215 hy219) ?_
   rintro _ W222 ⟨rfl, hm_⟩
   replace HI := hI220 W222 hm_
   clear h0_ hm_ hI220 hR217 hB218 hy219
   refine ⟨_, rfl, ?_⟩
   refine as_ ?_
   refine WL.done ?_
   refine via_ hK210 ?_
   refine WC.seq fun _ hK223 => ?_
   refine rg_ ?_
   refine mv_ ?_
   refine mv_ ?_
   refine mv_ ?_
   refine v_ (Run.eqv (ptr_at g j 32) (ia_ underlying27 32 (Int.natCast_nonneg _) hlt)) ?_
   refine v_ (Run.fieldAddr rfl rfl underlying118 rfl (by kernel_rfl) (Addr.add_mid _ _ _)) ?_
   refine v_ (Run.fieldAddr rfl rfl underlying30 rfl (by kernel_rfl) (Addr.add_mid _ _ _)) ?_
   refine WL.mset 25 HI rfl rfl (fun W226 y224 hw225 HI => ?_)
   refine WL.done ?_
   refine via_ hK223 ?_
   refine WC.seq fun _ hK227 => ?_
   refine rg_ ?_
   refine mv_ ?_
   refine b_ bin_add64 ?_
   rw [hw225]
   clear hw225
   refine as_ ?_
   refine WL.done ?_
   refine via_ hK227 ?_
   refine WC.seq fun _ hK228 => ?_
   refine rg_ ?_
   refine mv_ ?_
   refine mv_ ?_
   refine mv_ ?_
   refine v_ (Run.eqv (ptr_at g j 32) (ia_ underlying27 32 (Int.natCast_nonneg _) hlt)) ?_
   refine v_ (Run.fieldAddr rfl rfl underlying118 rfl (by kernel_rfl) (Addr.add_mid _ _ _)) ?_
   refine v_ (Run.fieldAddr rfl rfl underlying30 rfl (by kernel_rfl) (Addr.add_mid _ _ _)) ?_
   refine WL.mset 26 HI rfl rfl (fun W231 y229 hw230 HI => ?_)
   refine WL.done ?_
   refine via_ hK228 ?_
   refine WC.seq fun _ hK232 => ?_
   refine rg_ ?_
   refine mv_ ?_
   refine b_ bin_add64 ?_
   rw [hw230]
   clear hw230
   refine as_ ?_
   refine WL.done ?_
   refine via_ hK232 ?_
   refine WC.seq fun _ hK233 => ?_
   refine rg_ ?_
   refine mv_ ?_
   refine mv_ ?_
   refine mv_ ?_
   refine v_ (Run.eqv (ptr_at g j 32) (ia_ underlying27 32 (Int.natCast_nonneg _) hlt)) ?_
   refine v_ (Run.fieldAddr rfl rfl underlying118 rfl (by kernel_rfl) (Addr.add_mid _ _ _)) ?_
   refine v_ (Run.fieldAddr rfl rfl underlying30 rfl (by kernel_rfl) (Addr.add_mid _ _ _)) ?_
   refine WL.mset 27 HI rfl rfl (fun W236 y234 hw235 HI => ?_)
   refine WL.done ?_
   refine via_ hK233 ?_
   refine WC.seq fun _ hK237 => ?_
   refine rg_ ?_
   refine mv_ ?_
   refine b_ bin_add64 ?_
   rw [hw235]
   clear hw235
   refine as_ ?_
   refine WL.done ?_
   refine via_ hK237 ?_
   refine WC.seq fun _ hK238 => ?_
   refine rg_ ?_
   refine mv_ ?_
   refine mv_ ?_
   refine v_ (Run.eqv (ptr_at g j 32) (ia_ underlying27 32 (Int.natCast_nonneg _) hlt)) ?_
   refine v_ (Run.fieldAddr rfl rfl underlying118 rfl (by kernel_rfl) (Addr.add_mid _ _ _)) ?_
   refine v_ (Run.fieldAddr rfl rfl underlying30 rfl (by kernel_rfl) (Addr.add_mid _ _ _)) ?_
   have h0_ := HI.y0
   obtain ⟨L239, A240, n241, c242, y243, hc244, hR245, hB246, hy247, hI248⟩ := HI.row (i := 28) rfl
   refine v_ (Run.load rfl rfl underlying26 rfl hc244) ?_
   refine mv_ ?_
   refine c_ func80 (laws_markIntSS.leaf A240 n241 c242 y234 L239 _ hR245 h0_ hB246 y243 hy247) ?_
   rintro _ W250 ⟨rfl, hm_⟩
   replace HI := hI248 W250 hm_
   clear h0_ hm_ hI248 hR245 hB246 hy247
   refine ⟨_, rfl, ?_⟩
   refine as_ ?_
   refine WL.done ?_
   refine via_ hK238 ?_
   refine WC.seq fun _ hK251 => ?_
   refine rg_ ?_
   refine mv_ ?_
   refine mv_ ?_
   refine v_ (Run.eqv (ptr_at g j 32) (ia_ underlying27 32 (Int.natCast_nonneg _) hlt)) ?_
   refine v_ (Run.fieldAddr rfl rfl underlying118 rfl (by kernel_rfl) (Addr.add_mid _ _ _)) ?_
   refine v_ (Run.fieldAddr rfl rfl underlying30 rfl (by kernel_rfl) (Addr.add_mid _ _ _)) ?_
   have h0_ := HI.y0
   obtain ⟨L252, A253, n254, c255, y256, hc257, hR258, hB259, hy260, hI261⟩ := HI.row (i := 29) rfl
   refine v_ (Run.load rfl rfl underlying26 rfl hc257) ?_
   refine mv_ ?_
   refine c_ func80 (laws_markIntSS.leaf A253 n254 c255 y243 L252 _ hR258 h0_ hB259 y256 hy260) ?_
   rintro _ W263 ⟨rfl, hm_⟩
   replace HI := hI261 W263 hm_
   clear h0_ hm_ hI261 hR258 hB259 hy260
   refine ⟨_, rfl, ?_⟩
   refine as_ ?_
   refine WL.done ?_
   refine via_ hK251 ?_
   refine WC.seq fun _ hK264 => ?_
   refine rg_ ?_
   refine mv_ ?_
   refine mv_ ?_
   refine mv_ ?_
   refine v_ (Run.eqv (ptr_at g j 32) (ia_ underlying27 32 (Int.natCast_nonneg _) hlt)) ?_
   refine v_ (Run.fieldAddr rfl rfl underlying118 rfl (by kernel_rfl) (Addr.add_mid _ _ _)) ?_
   refine v_ (Run.fieldAddr rfl rfl underlying30 rfl (by kernel_rfl) (Addr.add_mid _ _ _)) ?_
   refine WL.mset 30 HI rfl rfl (fun W267 y265 hw266 HI => ?_)
   refine WL.done ?_
   refine via_ hK264 ?_
   refine WC.seq fun _ hK268 => ?_
   refine rg_ ?_
   refine mv_ ?_
   refine b_ bin_add64 ?_
   rw [hw266]
   clear hw266
   refine as_ ?_
   refine WL.done ?_
   refine via_ hK268 ?_
   refine WC.seq fun _ hK269 => ?_
   refine rg_ ?_
   refine mv_ ?_
   refine mv_ ?_
   refine mv_ ?_
   refine v_ (Run.eqv (ptr_at g j 32) (ia_ underlying27 32 (Int.natCast_nonneg _) hlt)) ?_
   refine v_ (Run.fieldAddr rfl rfl underlying118 rfl (by kernel_rfl) (Addr.add_mid _ _ _)) ?_
   refine v_ (Run.fieldAddr rfl rfl underlying30 rfl (by kernel_rfl) (Addr.add_mid _ _ _)) ?_
   refine WL.mset 31 HI rfl rfl (fun W272 y270 hw271 HI => ?_)
   refine WL.done ?_
   refine via_ hK269 ?_
   refine rg_ ?_
   refine mv_ ?_
   refine b_ bin_add64 ?_
   rw [hw271]
   clear hw271
   refine as_ ?_
   refine WL.done ?_
   refine via_ hK1 ?_
   refine rg_ ?_
   refine mv_ ?_
   refine b_ bin_add64 ?_
   rw [hj1]
   refine as_ ?_
   refine WL.done ?_
   exact wr_ k1 iq ⟨j + 1, _, by omega, rfl, HJ.next he HI rfl⟩
 · refine wn_ (dF hlt) (WC.exit (via_ hKb ?_))
   obtain rfl : j = n := by omega
   obtain rfl : y = r := HJ.y.trans hr0.symm
   refine WC.seq fun _ hKf => ?_
   refine rg_ ?_
   refine mv_ ?_
   refine as_ ?_
   refine WL.done ?_
   refine via_ hKf ?_
   refine WC.ret ?_
   exact fin1 Tryz.f81 rfl rfl hR_ ⟨rfl, HJ.m⟩
theorem laws_markPartS.leaf (A : Option Addr) (n c : Nat) (z : Int) (L : List Addr) (w : World) (h : XLeaf.RowLv w (.both .int (.row .int)) A n L) (h0 : 0 ≤ z) (h1 : z + (L.length : Int) ≤ 4611686018427387904) (r : Int) (hr0 : r = z + (L.length : Int)) :
   Calls prog 26 #[.slice A n c, vi z] w fun e w' => e = .returned (vi r) ∧ XLeaf.Marked L z w w' := by
 obtain ⟨f, rfl, HJ⟩ := MkJ.start h h0 h1
 clear h h0
 refine cw_ (n := 27) func26 fun R_ hR_ => ?_
 refine WC.seq fun _ hKa => ?_
 refine rg_ ?_
 refine as_ ?_
 refine WL.done ?_
 refine via_ hKa ?_
 refine WC.seq fun _ hKb => ?_
 refine WC.seq fun _ hKc => ?_
 refine rg_ ?_
 refine as_ ?_
 refine WL.done ?_
 refine via_ hKc ?_
 refine WC.block ?_
 refine WC.loop (fun k_ E_ W_ => ∃ (j : Nat) (y : Int), k_ + j = n ∧ E_ = [(0, .slice A n c), (1, vi y), (5, vi (j : Int))] ∧ MkJ w W_ z (.both .int (.row .int)) A n f j y) n ⟨0, z, rfl, rfl, HJ⟩ (sb rfl) ?_
 rintro k_ E_ W ⟨j, y, hk, rfl, HJ⟩
 refine WC.seq fun _ hKd => ?_
 refine WC.seq fun _ hKe => ?_
 refine rg_ ?_
 refine mv_ ?_
 refine mv_ ?_
 refine ln_ underlying49 ?_
 refine b_ bin_lss ?_
 refine WL.done ?_
 refine via_ hKe ?_
 by_cases hlt : (j : Int) < (n : Int)
 · refine wy_ (dT hlt) (WC.skip (via_ hKd ?_))
   obtain ⟨k1, rfl⟩ : ∃ k1, k_ = k1 + 1 := ⟨k_ - 1, by omega⟩
   obtain ⟨g, Ls, rfl, hj1, he, HI⟩ := HJ.round (by omega)
   refine WC.seq fun _ hK1 => ?_
   refine WC.block ?_
   refine WC.seq fun _ hK2 => ?_
   refine rg_ ?_
   refine mv_ ?_
   refine mv_ ?_
   refine mv_ ?_
   refine v_ (Run.eqv (ptr_at g j 2) (ia_ underlying49 2 (Int.natCast_nonneg _) hlt)) ?_
   refine v_ (Run.fieldAddr rfl rfl underlying67 rfl (by kernel_rfl) (Addr.add_mid _ _ _)) ?_
   refine WL.mset 0 HI rfl rfl (fun W5 y3 hw4 HI => ?_)
   refine WL.done ?_
   refine via_ hK2 ?_
   refine WC.seq fun _ hK6 => ?_
   refine rg_ ?_
   refine mv_ ?_
   refine b_ bin_add64 ?_
   rw [hw4]
   clear hw4
   refine as_ ?_
   refine WL.done ?_
   refine via_ hK6 ?_
   refine rg_ ?_
   refine mv_ ?_
   refine mv_ ?_
   refine v_ (Run.eqv (ptr_at g j 2) (ia_ underlying49 2 (Int.natCast_nonneg _) hlt)) ?_
   refine v_ (Run.fieldAddr rfl rfl underlying67 rfl (by kernel_rfl) (Addr.add_mid _ _ _)) ?_
   have h0_ := HI.y0
   obtain ⟨L7, A8, n9, c10, y11, hc12, hR13, hB14, hy15, hI16⟩ := HI.row (i := 1) rfl
   refine v_ (Run.load rfl rfl underlying28 rfl hc12) ?_
   refine mv_ ?_
   refine c_ func25 (laws_markIntS.leaf A8 n9 c10 y3 L7 _ hR13 h0_ hB14 y11 hy15) ?_
   rintro _ W18 ⟨rfl, hm_⟩
   replace HI := hI16 W18 hm_
   clear h0_ hm_ hI16 hR13 hB14 hy15
   refine ⟨_, rfl, ?_⟩
   refine as_ ?_
   refine WL.done ?_
   refine via_ hK1 ?_
   refine rg_ ?_
   refine mv_ ?_
   refine b_ bin_add64 ?_
   rw [hj1]
   refine as_ ?_
   refine WL.done ?_
   exact wr_ k1 iq ⟨j + 1, _, by omega, rfl, HJ.next he HI rfl⟩
 · refine wn_ (dF hlt) (WC.exit (via_ hKb ?_))
   obtain rfl : j = n := by omega
   obtain rfl : y = r := HJ.y.trans hr0.symm
   refine WC.seq fun _ hKf => ?_
   refine rg_ ?_
   refine mv_ ?_
   refine as_ ?_
   refine WL.done ?_
   refine via_ hKf ?_
   refine WC.ret ?_
   exact fin1 Tryz.f26 rfl rfl hR_ ⟨rfl, HJ.m⟩
theorem laws_heldIntS.leaf (A : Option Addr) (n c : Nat) (z : Int) (L : List Addr) (w : World) (h : XLeaf.RowLv w .int A n L) (ht : XLeaf.ToldAt w L z) (h0 : 0 ≤ z) (h1 : z + (L.length : Int) ≤ 4611686018427387904) (r : Int) (hr0 : r = z + (L.length : Int)) :
   Calls prog 38 #[.slice A n c, vi z] w fun e w' => e = .returned (vi r) ∧ Below w.heap.size w w' := by
 obtain ⟨f, rfl, HJ⟩ := HeJ.start h ht h0 h1
 clear h h0 ht
 refine cw_ (n := 21) func38 fun R_ hR_ => ?_
 refine WC.seq fun _ hKa => ?_
 refine rg_ ?_
 refine as_ ?_
 refine WL.done ?_
 refine via_ hKa ?_
 refine WC.seq fun _ hKb => ?_
 refine WC.seq fun _ hKc => ?_
 refine rg_ ?_
 refine as_ ?_
 refine WL.done ?_
 refine via_ hKc ?_
 refine WC.block ?_
 refine WC.loop (fun k_ E_ W_ => ∃ (j : Nat) (y : Int), k_ + j = n ∧ E_ = [(0, .slice A n c), (1, vi y), (5, vi (j : Int))] ∧ HeJ w W_ z .int A n f j y) n ⟨0, z, rfl, rfl, HJ⟩ (sb rfl) ?_
 rintro k_ E_ W ⟨j, y, hk, rfl, HJ⟩
 refine WC.seq fun _ hKd => ?_
 refine WC.seq fun _ hKe => ?_
 refine rg_ ?_
 refine mv_ ?_
 refine mv_ ?_
 refine ln_ underlying28 ?_
 refine b_ bin_lss ?_
 refine WL.done ?_
 refine via_ hKe ?_
 by_cases hlt : (j : Int) < (n : Int)
 · refine wy_ (dT hlt) (WC.skip (via_ hKd ?_))
   obtain ⟨k1, rfl⟩ : ∃ k1, k_ = k1 + 1 := ⟨k_ - 1, by omega⟩
   obtain ⟨g, Ls, rfl, hj1, he, HI⟩ := HJ.round (by omega)
   refine WC.seq fun _ hK1 => ?_
   refine WC.block ?_
   refine WC.seq fun _ hK2 => ?_
   refine WC.seq fun _ hK3 => ?_
   refine rg_ ?_
   refine mv_ ?_
   refine mv_ ?_
   refine v_ (Run.eqv (ptr_at g j 1) (ia_ underlying28 1 (Int.natCast_nonneg _) hlt)) ?_
   obtain ⟨y4, hc5, hw6, HI⟩ := HI.int (i := 0) rfl
   refine v_ (Run.load rfl rfl underlying3 rfl hc5) ?_
   refine mv_ ?_
   refine b_ bin_neq ?_
   refine WL.done ?_
   refine via_ hK3 ?_
   refine wn_ (qF rfl) ?_
   refine WC.skip ?_
   refine via_ hK2 ?_
   refine rg_ ?_
   refine mv_ ?_
   refine b_ bin_add64 ?_
   rw [hw6]
   clear hw6
   refine as_ ?_
   refine WL.done ?_
   refine via_ hK1 ?_
   refine rg_ ?_
   refine mv_ ?_
   refine b_ bin_add64 ?_
   rw [hj1]
   refine as_ ?_
   refine WL.done ?_
   exact wr_ k1 iq ⟨j + 1, _, by omega, rfl, HJ.next he HI rfl⟩
 · refine wn_ (dF hlt) (WC.exit (via_ hKb ?_))
   obtain rfl : j = n := by omega
   obtain rfl : y = r := HJ.y.trans hr0.symm
   refine WC.seq fun _ hKf => ?_
   refine rg_ ?_
   refine mv_ ?_
   refine as_ ?_
   refine WL.done ?_
   refine via_ hKf ?_
   refine WC.ret ?_
   exact fin1 Tryz.f38 rfl rfl hR_ ⟨rfl, HJ.m⟩
theorem laws_heldPartS.leaf (A : Option Addr) (n c : Nat) (z : Int) (L : List Addr) (w : World) (h : XLeaf.RowLv w (.both .int (.row .int)) A n L) (ht : XLeaf.ToldAt w L z) (h0 : 0 ≤ z) (h1 : z + (L.length : Int) ≤ 4611686018427387904) (r : Int) (hr0 : r = z + (L.length : Int)) :
   Calls prog 27 #[.slice A n c, vi z] w fun e w' => e = .returned (vi r) ∧ Below w.heap.size w w' := by
 obtain ⟨f, rfl, HJ⟩ := HeJ.start h ht h0 h1
 clear h h0 ht
 refine cw_ (n := 31) func27 fun R_ hR_ => ?_
 refine WC.seq fun _ hKa => ?_
 refine rg_ ?_
 refine as_ ?_
 refine WL.done ?_
 refine via_ hKa ?_
 refine WC.seq fun _ hKb => ?_
 refine WC.seq fun _ hKc => ?_
 refine rg_ ?_
 refine as_ ?_
 refine WL.done ?_
 refine via_ hKc ?_
 refine WC.block ?_
 refine WC.loop (fun k_ E_ W_ => ∃ (j : Nat) (y : Int), k_ + j = n ∧ E_ = [(0, .slice A n c), (1, vi y), (5, vi (j : Int))] ∧ HeJ w W_ z (.both .int (.row .int)) A n f j y) n ⟨0, z, rfl, rfl, HJ⟩ (sb rfl) ?_
 rintro k_ E_ W ⟨j, y, hk, rfl, HJ⟩
 refine WC.seq fun _ hKd => ?_
 refine WC.seq fun _ hKe => ?_
 refine rg_ ?_
 refine mv_ ?_
 refine mv_ ?_
 refine ln_ underlying49 ?_
 refine b_ bin_lss ?_
 refine WL.done ?_
 refine via_ hKe ?_
 by_cases hlt : (j : Int) < (n : Int)
 · refine wy_ (dT hlt) (WC.skip (via_ hKd ?_))
   obtain ⟨k1, rfl⟩ : ∃ k1, k_ = k1 + 1 := ⟨k_ - 1, by omega⟩
   obtain ⟨g, Ls, rfl, hj1, he, HI⟩ := HJ.round (by omega)
   refine WC.seq fun _ hK1 => ?_
   refine WC.block ?_
   refine WC.seq fun _ hK2 => ?_
   refine WC.seq fun _ hK3 => ?_
   refine rg_ ?_
   refine mv_ ?_
   refine mv_ ?_
   refine v_ (Run.eqv (ptr_at g j 2) (ia_ underlying49 2 (Int.natCast_nonneg _) hlt)) ?_
   refine v_ (Run.fieldAddr rfl rfl underlying67 rfl (by kernel_rfl) (Addr.add_mid _ _ _)) ?_
   obtain ⟨y4, hc5, hw6, HI⟩ := HI.int (i := 0) rfl
   refine v_ (Run.load rfl rfl underlying3 rfl hc5) ?_
   refine mv_ ?_
   refine b_ bin_neq ?_
   refine WL.done ?_
   refine via_ hK3 ?_
   refine wn_ (qF rfl) ?_
   refine WC.skip ?_
   refine via_ hK2 ?_
   refine WC.seq fun _ hK7 => ?_
   refine rg_ ?_
   refine mv_ ?_
   refine b_ bin_add64 ?_
   rw [hw6]
   clear hw6
   refine as_ ?_
   refine WL.done ?_
   refine via_ hK7 ?_
   refine WC.seq fun _ hK8 => ?_
   refine rg_ ?_
   refine mv_ ?_
   refine mv_ ?_
   refine v_ (Run.eqv (ptr_at g j 2) (ia_ underlying49 2 (Int.natCast_nonneg _) hlt)) ?_
   refine v_ (Run.fieldAddr rfl rfl underlying67 rfl (by kernel_rfl) (Addr.add_mid _ _ _)) ?_
   have h0_ := HI.y0
   obtain ⟨L9, A10, n11, c12, y13, hc14, hR15, hT19, hB16, hy17, hI18⟩ := HI.row (i := 1) rfl
   refine v_ (Run.load rfl rfl underlying28 rfl hc14) ?_
   refine mv_ ?_
   refine c_ func38 (laws_heldIntS.leaf A10 n11 c12 y4 L9 _ hR15 hT19 h0_ hB16 y13 hy17) ?_
   rintro _ W20 ⟨rfl, hm_⟩
   replace HI := hI18 W20 hm_
   clear h0_ hm_ hI18 hR15 hB16 hy17
   refine ⟨_, rfl, ?_⟩
   refine as_ ?_
   refine WL.done ?_
   refine via_ hK8 ?_
   refine WC.seq fun _ hK21 => ?_
   refine rg_ ?_
   refine mv_ ?_
   refine b_ bin_lss ?_
   refine WL.done ?_
   refine via_ hK21 ?_
   refine wn_ (dF (show ¬ (y13 < 0) from Int.not_lt.mpr HI.y0)) ?_
   refine WC.skip ?_
   refine via_ hK1 ?_
   refine rg_ ?_
   refine mv_ ?_
   refine b_ bin_add64 ?_
   rw [hj1]
   refine as_ ?_
   refine WL.done ?_
   exact wr_ k1 iq ⟨j + 1, _, by omega, rfl, HJ.next he HI rfl⟩
 · refine wn_ (dF hlt) (WC.exit (via_ hKb ?_))
   obtain rfl : j = n := by omega
   obtain rfl : y = r := HJ.y.trans hr0.symm
   refine WC.seq fun _ hKf => ?_
   refine rg_ ?_
   refine mv_ ?_
   refine as_ ?_
   refine WL.done ?_
   refine via_ hKf ?_
   refine WC.ret ?_
   exact fin1 Tryz.f27 rfl rfl hR_ ⟨rfl, HJ.m⟩
def laws_FnExactKeyValue.g (k : Nat) (x0 : S47) (a1 : Int) (a2 : Int) (l3 : List Int) : Option Bool := (if (l3.length : Int) > 1048576 then (some true) else ((laws_szModel.g k x0 1048576).bind fun t10 => (if t10 < 0 then (some true) else ((laws_toModel.g k x0).bind fun t18 => ((laws_toIntS.g k l3).bind fun t24 => ((spec_KeyValue.g k t18 a1 a2 t24).bind fun t33 => ((laws_toModel.g k x0).bind fun t45 => ((laws_toIntS.g k l3).bind fun t55 => ((impl_KeyValue.g k t45 a1 a2 t55).bind fun t65 => ((laws_eqPartS.g k t65.1 t33.1).bind fun t80 => (if t80 = true then ((laws_eqPartS.g k t65.2.1 t33.2.1).bind fun t86 => (if t86 = true then (if t65.2.2 = t33.2.2 then ((laws_toModel.g k x0).bind fun t94 => ((laws_eqModel.g k t45 t94).bind fun t100 => (if t100 = true then ((laws_toIntS.g k l3).bind fun t106 => ((laws_eqIntS.g k t55 t106).bind fun t115 => (if t115 = true then (if (0 : Int) ≤ 1 ∧ 1 + ((n25 t45.f3) : Int) ≤ 4611686018427387904 then (if 0 ≤ (1 + ((n25 t45.f3) : Int)) ∧ (1 + ((n25 t45.f3) : Int)) + ((n26 t45.f4) : Int) ≤ 4611686018427387904 then (if 0 ≤ ((1 + ((n25 t45.f3) : Int)) + ((n26 t45.f4) : Int)) ∧ ((1 + ((n25 t45.f3) : Int)) + ((n26 t45.f4) : Int)) + ((n27 t45.f5) : Int) ≤ 4611686018427387904 then (if 0 ≤ (((1 + ((n25 t45.f3) : Int)) + ((n26 t45.f4) : Int)) + ((n27 t45.f5) : Int)) ∧ (((1 + ((n25 t45.f3) : Int)) + ((n26 t45.f4) : Int)) + ((n27 t45.f5) : Int)) + ((n28 t45.f6) : Int) ≤ 4611686018427387904 then (if 0 ≤ ((((1 + ((n25 t45.f3) : Int)) + ((n26 t45.f4) : Int)) + ((n27 t45.f5) : Int)) + ((n28 t45.f6) : Int)) ∧ ((((1 + ((n25 t45.f3) : Int)) + ((n26 t45.f4) : Int)) + ((n27 t45.f5) : Int)) + ((n28 t45.f6) : Int)) + ((n26 t45.f7.f1) : Int) ≤ 4611686018427387904 then (if 0 ≤ (((((1 + ((n25 t45.f3) : Int)) + ((n26 t45.f4) : Int)) + ((n27 t45.f5) : Int)) + ((n28 t45.f6) : Int)) + ((n26 t45.f7.f1) : Int)) ∧ (((((1 + ((n25 t45.f3) : Int)) + ((n26 t45.f4) : Int)) + ((n27 t45.f5) : Int)) + ((n28 t45.f6) : Int)) + ((n26 t45.f7.f1) : Int)) + ((n26 t45.f7.f2) : Int) ≤ 4611686018427387904 then (if 0 ≤ ((((((1 + ((n25 t45.f3) : Int)) + ((n26 t45.f4) : Int)) + ((n27 t45.f5) : Int)) + ((n28 t45.f6) : Int)) + ((n26 t45.f7.f1) : Int)) + ((n26 t45.f7.f2) : Int)) ∧ ((((((1 + ((n25 t45.f3) : Int)) + ((n26 t45.f4) : Int)) + ((n27 t45.f5) : Int)) + ((n28 t45.f6) : Int)) + ((n26 t45.f7.f1) : Int)) + ((n26 t45.f7.f2) : Int)) + ((n26 t45.f8.f0) : Int) ≤ 4611686018427387904 then (if 0 ≤ (((((((1 + ((n25 t45.f3) : Int)) + ((n26 t45.f4) : Int)) + ((n27 t45.f5) : Int)) + ((n28 t45.f6) : Int)) + ((n26 t45.f7.f1) : Int)) + ((n26 t45.f7.f2) : Int)) + ((n26 t45.f8.f0) : Int)) ∧ (((((((1 + ((n25 t45.f3) : Int)) + ((n26 t45.f4) : Int)) + ((n27 t45.f5) : Int)) + ((n28 t45.f6) : Int)) + ((n26 t45.f7.f1) : Int)) + ((n26 t45.f7.f2) : Int)) + ((n26 t45.f8.f0) : Int)) + ((n26 t45.f8.f1) : Int) ≤ 4611686018427387904 then (if 0 ≤ ((((((((1 + ((n25 t45.f3) : Int)) + ((n26 t45.f4) : Int)) + ((n27 t45.f5) : Int)) + ((n28 t45.f6) : Int)) + ((n26 t45.f7.f1) : Int)) + ((n26 t45.f7.f2) : Int)) + ((n26 t45.f8.f0) : Int)) + ((n26 t45.f8.f1) : Int)) ∧ ((((((((1 + ((n25 t45.f3) : Int)) + ((n26 t45.f4) : Int)) + ((n27 t45.f5) : Int)) + ((n28 t45.f6) : Int)) + ((n26 t45.f7.f1) : Int)) + ((n26 t45.f7.f2) : Int)) + ((n26 t45.f8.f0) : Int)) + ((n26 t45.f8.f1) : Int)) + ((n28 t55) : Int) ≤ 4611686018427387904 then ((laws_eqPartS.g k t65.1 t33.1).bind fun t295 => (if t295 = true then ((laws_eqPartS.g k t65.2.1 t33.2.1).bind fun t299 => (if t299 = true then (if (0 : Int) ≤ 1 ∧ 1 + ((n49 t65.1) : Int) ≤ 4611686018427387904 then (if 0 ≤ (1 + ((n49 t65.1) : Int)) ∧ (1 + ((n49 t65.1) : Int)) + ((n49 t65.2.1) : Int) ≤ 4611686018427387904 then ((laws_toModel.g k x0).bind fun t332 => ((laws_toIntS.g k l3).bind fun t338 => ((impl_KeyValue.g k t332 a1 a2 t338).bind fun t347 => ((laws_eqPartS.g k t347.1 t33.1).bind fun t362 => (if t362 = true then ((laws_eqPartS.g k t347.2.1 t33.2.1).bind fun t368 => (if t368 = true then (if t347.2.2 = t33.2.2 then (some true) else (some false)) else (some false))) else (some false)))))) else none) else none) else (some false))) else (some false))) else none) else none) else none) else none) else none) else none) else none) else none) else none) else (some false)))) else (some false)))) else (some false)) else (some false))) else (some false))))))))))))
theorem laws_FnExactKeyValue.runs (k : Nat) (cs0 : List Value) (x0 : S47) (a1 : Int) (a2 : Int) (A3 : Option Addr) (c3 : Nat) (l3 : List Int) (r : Bool) (w : World) (hk0 : k47.K w x0 cs0) (hr3 : kI.C w A3 l3.length l3) (hc3 : l3.length ≤ c3) (H : laws_FnExactKeyValue.g k x0 a1 a2 l3 = some r) :
   Calls prog 5 #[.agg cs0.toArray, vi a1, vi a2, .slice A3 l3.length c3] w fun e w' => e = .returned (.bool r) ∧ Below w.heap.size w w' := by
 have el0 : cs0.length = 14 := k47.K_len hk0
 unfold laws_FnExactKeyValue.g at H
 have HS : St (fun _ => True) w w [] [(kF k47 x0 cs0), (cF kI A3 l3)] [] := St.start (foot_cons (foot_K h47 hk0) (foot_cons (foot_C (Kd.heap_int _) hr3) foot_nil))
 refine cw_ (n := 164) func5 fun R_ hR_ => ?_
 refine sr_ fun _ hK1 => ?_
 refine bo_ HS (fun b2 w3 hb2 HS => ?_)
 refine ad_ hK1 ?_
 clear hK1
 exact by (
 refine WC.seq fun _ hK4 => ?_
 refine sr_ fun _ hK5 => ?_
 refine mv_ ?_
 refine ln_ underlying28 ?_
 refine b_ bin_gtr ?_
 refine dn_ hK5 ?_
 clear hK5
 rcases ite_ H with ⟨c6, H⟩ | ⟨c6, H⟩
 · refine wy_ (dT c6) (sr_ fun _ hK7 => ?_)
   exact by (
   refine ad_ hK7 ?_
   clear hK7
   obtain rfl := os H
   exact rt1 Tryz.f5 rfl rfl hR_ ⟨rfl, HS.b⟩ )
 refine wn_ (dF c6) (WC.skip (via_ hK4 (sr_ fun _ hK8 => ?_)))
 clear hK4
 refine ad_ hK8 ?_
 clear hK8
 exact by (
 refine sr_ fun _ hK9 => ?_
 refine v_ (Run.loadS (cs := cs0) rfl rfl underlying47 rfl (by rw [el0]; kernel_rfl) (box_part (HS.mu 0 rfl) part_all)) ?_
 refine mv_ ?_
 obtain ⟨t10, ha11, H⟩ := bind_some H
 refine cs_ HS func18 (laws_szModel.runs k cs0 x0 1048576 t10 _ (HS.getO 0 rfl) ha11) (fun w12 HS => ?_)
 clear ha11
 refine ad_ hK9 ?_
 clear hK9
 exact by (
 refine WC.seq fun _ hK13 => ?_
 refine sr_ fun _ hK14 => ?_
 refine mv_ ?_
 refine b_ bin_lss ?_
 refine dn_ hK14 ?_
 clear hK14
 rcases ite_ H with ⟨c15, H⟩ | ⟨c15, H⟩
 · refine wy_ (dT c15) (sr_ fun _ hK16 => ?_)
   exact by (
   refine ad_ hK16 ?_
   clear hK16
   obtain rfl := os H
   exact rt1 Tryz.f5 rfl rfl hR_ ⟨rfl, HS.b⟩ )
 refine wn_ (dF c15) (WC.skip (via_ hK13 (sr_ fun _ hK17 => ?_)))
 clear hK13
 refine v_ (Run.loadS (cs := cs0) rfl rfl underlying47 rfl (by rw [el0]; kernel_rfl) (box_part (HS.mu 0 rfl) part_all)) ?_
 obtain ⟨t18, ha19, H⟩ := bind_some H
 exact by (
 refine c_ func20 (laws_toModel.runs k cs0 x0 t18 _ (HS.getO 0 rfl) ha19) ?_
 clear ha19
 rintro _ w20 ⟨cs21, bl22, rfl, hO_, hb⟩
 replace HS := HS.got hb hO_
 dsimp only [List.cons_append, List.nil_append] at HS
 clear hO_
 have el23 : cs21.length = 14 := k34.K_len (HS.valK 0 rfl)
 refine ⟨_, rfl, ?_⟩
 exact by (
 clear hb
 refine mv_ ?_
 refine mv_ ?_
 refine mv_ ?_
 obtain ⟨t24, ha25, H⟩ := bind_some H
 refine c_ func21 (laws_toIntS.runs k A3 c3 l3 t24 _ (HS.getO 1 rfl) hc3 ha25) ?_
 clear ha25
 rintro _ w26 ⟨v27, bl28, rfl, hO_, hb⟩
 exact by (
 replace HS := HS.got hb hO_
 dsimp only [List.cons_append, List.nil_append] at HS
 clear hO_
 obtain ⟨I29, bl30, HS⟩ := HS.unseal (sz := 1) rfl
 replace HS := HS.freezeN 1 (p := (rF kI t24 I29)) rfl (fun _ hP_ _ => RepsB.reps hP_)
 dsimp only [List.eraseIdx] at HS
 refine ⟨_, rfl, ?_⟩
 clear hb
 exact by (
 obtain ⟨A31, c32, rfl⟩ := row_slice (HS.mu 0 rfl)
 obtain ⟨t33, ha34, H⟩ := bind_some H
 refine c_ func19 (spec_KeyValue.runs k cs21 t18 a1 a2 A31 c32 t24 t33.1 t33.2.1 t33.2.2 _ (HS.valK 1 rfl) (row_C rfl (HS.mu 0 rfl) (HS.getN 0 rfl)) (row_le (HS.mu 0 rfl)) ha34) ?_
 clear ha34
 rintro _ w35 ⟨A36, c37, A40, c41, rfl, le38, hf39, le42, hf43, hb⟩
 replace HS := HS.newNs hb (foot_cons hf39 (foot_cons hf43 foot_nil))
 refine ⟨_, rfl, ?_⟩
 clear hb
 exact by (
 refine mv_ ?_
 refine v_ (Run.extract rfl rfl rfl) ?_
 refine v_ (Run.extract rfl rfl rfl) ?_
 refine v_ (Run.extract rfl rfl rfl) ?_
 refine fast_ ?_
 refine via_ hK17 (sr_ fun _ hK44 => ?_)
 clear hK17
 refine v_ (Run.loadS (cs := cs0) rfl rfl underlying47 rfl (by rw [el0]; kernel_rfl) (box_part (HS.mu 2 rfl) part_all)) ?_
 exact by (
 obtain ⟨t45, ha46, H⟩ := bind_some H
 refine c_ func20 (laws_toModel.runs k cs0 x0 t45 _ (HS.getO 0 rfl) ha46) ?_
 clear ha46
 rintro _ w47 ⟨cs48, bl49, rfl, hO_, hb⟩
 replace HS := HS.got hb hO_
 dsimp only [List.cons_append, List.nil_append] at HS
 clear hO_
 have el50 : cs48.length = 14 := k34.K_len (HS.valK 0 rfl)
 exact by (
 refine ⟨_, rfl, ?_⟩
 clear hb
 refine WL.alloc HS (v := .agg zz2) (cs := zz2) rfl rfl (by decide) rfl (by kernel_rfl) rfl (fun b51 w52 hb51 HS => ?_)
 refine WL.storeS HS 0 rfl rfl rfl rfl rfl rfl (Kd.K_one _ (HS.valK 1 rfl)) (by rw [el50]; kernel_rfl) (by rw [el50]; decide) (splice_all (by rw [el50]; rfl)) (fun w53 HS => ?_)
 dsimp only [List.set] at HS
 refine dn_ hK44 (sr_ fun _ hK54 => ?_)
 clear hK44
 refine mv_ ?_
 exact by (
 obtain ⟨t55, ha56, H⟩ := bind_some H
 refine c_ func21 (laws_toIntS.runs k A3 c3 l3 t55 _ (HS.getO 1 rfl) hc3 ha56) ?_
 clear ha56
 rintro _ w57 ⟨v58, bl59, rfl, hO_, hb⟩
 replace HS := HS.got hb hO_
 dsimp only [List.cons_append, List.nil_append] at HS
 clear hO_
 obtain ⟨I60, bl61, HS⟩ := HS.unseal (sz := 1) rfl
 exact by (
 replace HS := HS.freezeN 1 (p := (rF kI t55 I60)) rfl (fun _ hP_ _ => RepsB.reps hP_)
 dsimp only [List.eraseIdx] at HS
 refine ⟨_, rfl, ?_⟩
 clear hb
 refine ad_ hK54 ?_
 clear hK54
 refine sr_ fun _ hK62 => ?_
 refine v_ (Run.loadS (cs := cs48) rfl rfl underlying34 rfl (by rw [el50]; kernel_rfl) (box_part (HS.mu 1 rfl) part_all)) ?_
 exact by (
 refine mv_ ?_
 refine mv_ ?_
 refine mv_ ?_
 obtain ⟨A63, c64, rfl⟩ := row_slice (HS.mu 0 rfl)
 obtain ⟨t65, ha66, H⟩ := bind_some H
 refine c_ func22 (impl_KeyValue.runs k cs48 t45 a1 a2 A63 c64 t55 t65.1 t65.2.1 t65.2.2 _ (HS.valK 2 rfl) (row_C rfl (HS.mu 0 rfl) (HS.getN 0 rfl)) (row_le (HS.mu 0 rfl)) ha66) ?_
 clear ha66
 rintro _ w67 ⟨v68, bl69, v70, bl71, rfl, hO_, hb⟩
 exact by (
 replace HS := HS.got hb hO_
 dsimp only [List.cons_append, List.nil_append] at HS
 clear hO_
 obtain ⟨I72, bl73, HS⟩ := HS.unseal (sz := 2) rfl
 replace HS := HS.front 2 rfl
 dsimp only [List.eraseIdx] at HS
 obtain ⟨I74, bl75, HS⟩ := HS.unseal (sz := 2) rfl
 refine ⟨_, rfl, ?_⟩
 exact by (
 clear hb
 refine mv_ ?_
 refine v_ (Run.extract rfl rfl rfl) ?_
 refine v_ (Run.extract rfl rfl rfl) ?_
 refine v_ (Run.extract rfl rfl rfl) ?_
 refine fast_ ?_
 refine via_ hK62 (WC.seq fun _ hK76 => ?_)
 clear hK62
 exact by (
 refine sr_ fun _ hK77 => ?_
 refine mv_ ?_
 refine mv_ ?_
 obtain ⟨A78, c79, rfl⟩ := row_slice (HS.mu 2 rfl)
 obtain ⟨t80, ha81, H⟩ := bind_some H
 refine cs_ HS func23 (laws_eqPartS.runs k A78 c79 t65.1 A36 c37 t33.1 t80 _ (row_C rfl (HS.mu 2 rfl) (HS.elsK 3 rfl)) (row_le (HS.mu 2 rfl)) (HS.getN 1 rfl) le38 ha81) (fun w82 HS => ?_)
 clear ha81
 refine nt_ ?_
 exact by (
 refine mv_ ?_
 rcases eti_ H with ⟨c83, H⟩ | ⟨c83, H⟩
 · refine off_ (c' := true) (nB (bF c83)) ?_
   refine WL.know 60 (nB (bF c83)) ?_
   refine fast_ ?_
   refine via_ hK77 (wy_ rfl ?_)
   clear hK77
   refine sr_ fun _ hK396 => ?_
   exact by (
   refine ad_ hK396 ?_
   clear hK396
   obtain rfl := os H
   exact rt1 Tryz.f5 rfl rfl hR_ ⟨rfl, HS.b⟩ )
 refine on_ (nB c83) (mv_ ?_)
 refine on_ (nB c83) (mv_ ?_)
 refine on_ (nB c83) ?_
 obtain ⟨A84, c85, rfl⟩ := row_slice (HS.mu 0 rfl)
 exact by (
 obtain ⟨t86, ha87, H⟩ := bind_some H
 refine cs_ HS func23 (laws_eqPartS.runs k A84 c85 t65.2.1 A40 c41 t33.2.1 t86 _ (row_C rfl (HS.mu 0 rfl) (HS.elsK 1 rfl)) (row_le (HS.mu 0 rfl)) (HS.getN 2 rfl) le42 ha87) (fun w88 HS => ?_)
 clear ha87
 refine on_ (nB c83) (nt_ ?_)
 refine v_ (Run.pickF rfl rfl (nB c83) rfl) ?_
 refine mv_ ?_
 rcases eti_ H with ⟨c89, H⟩ | ⟨c89, H⟩
 · refine off_ (c' := true) (nB (bF c89)) ?_
   exact by (
   refine WL.know 66 (nB (bF c89)) ?_
   refine fast_ ?_
   refine via_ hK77 (wy_ rfl ?_)
   clear hK77
   refine sr_ fun _ hK395 => ?_
   refine ad_ hK395 ?_
   clear hK395
   obtain rfl := os H
   exact rt1 Tryz.f5 rfl rfl hR_ ⟨rfl, HS.b⟩ )
 exact by (
 refine on_ (nB c89) (mv_ ?_)
 refine on_ (nB c89) (mv_ ?_)
 refine on_ (nB c89) (v_ (Run.binB rfl rfl rfl (bin_neqB underlying4)) ?_)
 refine v_ (Run.pickF rfl rfl (nB c89) rfl) ?_
 refine dn_ hK77 ?_
 clear hK77
 rcases eti_ H with ⟨c90, H⟩ | ⟨c90, H⟩
 · refine wy_ (qT c90) (sr_ fun _ hK394 => ?_)
   exact by (
   refine ad_ hK394 ?_
   clear hK394
   obtain rfl := os H
   exact rt1 Tryz.f5 rfl rfl hR_ ⟨rfl, HS.b⟩ )
 refine wn_ (qF c90) (WC.skip (via_ hK76 (WC.seq fun _ hK91 => ?_)))
 clear hK76
 refine WC.seq fun _ hK92 => ?_
 refine WC.drawS HS [] rfl rfl (fun w93 HS => ?_)
 exact by (
 have HB := Below.refl w93.heap.size w93
 have HSW := HS
 refine dt_ 0 (Below.refl _ _) (fun w_ hw_ => Run.loadS (cs := cs48) rfl rfl underlying34 rfl (by rw [el50]; kernel_rfl) (box_part ((HS.below hw_).mu 5 rfl) part_all)) ?_
 refine dt_ 1 (Below.refl _ _) (fun w_ hw_ => Run.loadS (cs := cs0) rfl rfl underlying47 rfl (by rw [el0]; kernel_rfl) (box_part ((HS.below hw_).mu 9 rfl) part_all)) ?_
 obtain ⟨t94, ha95, H⟩ := bind_some H
 refine dc_ 2 (w_none rfl) func20 (laws_toModel.runs k cs0 x0 t94 _ (HS.getO 0 rfl) ha95) ?_
 clear ha95
 rintro _ w96 ⟨cs97, bl98, rfl, hO_, hb⟩
 exact by (
 replace HB := HB.trans (hb.mono HB.size)
 replace HS := HS.got hb hO_
 dsimp only [List.cons_append, List.nil_append] at HS
 clear hO_
 have el99 : cs97.length = 14 := k34.K_len (HS.valK 0 rfl)
 refine ⟨HB, _, rfl, ?_⟩
 clear hb
 obtain ⟨t100, ha101, H⟩ := bind_some H
 exact by (
 refine dcs_ HS HB 3 (w_none rfl) func15 (laws_eqModel.runs k cs48 t45 cs97 t94 t100 _ (HS.valK 7 rfl) (HS.valK 0 rfl) ha101) (fun w102 HS HB => ?_)
 clear ha101
 refine dp_ 4 (fun _ => Run.not rfl rfl) ?_
 refine dd_ ?_
 clear HB HSW
 refine via_ hK92 ?_
 clear hK92
 rcases eti_ H with ⟨c103, H⟩ | ⟨c103, H⟩
 · refine wy_ (nB (bF c103)) (sr_ fun _ hK393 => ?_)
   exact by (
   refine ad_ hK393 ?_
   clear hK393
   obtain rfl := os H
   exact rt1 Tryz.f5 rfl rfl hR_ ⟨rfl, HS.b⟩ )
 refine wn_ (nB c103) (WC.skip (via_ hK91 (WC.seq fun _ hK104 => ?_)))
 clear hK91
 refine sr_ fun _ hK105 => ?_
 refine mv_ ?_
 exact by (
 refine mv_ ?_
 obtain ⟨t106, ha107, H⟩ := bind_some H
 refine c_ func21 (laws_toIntS.runs k A3 c3 l3 t106 _ (HS.getO 1 rfl) hc3 ha107) ?_
 clear ha107
 rintro _ w108 ⟨v109, bl110, rfl, hO_, hb⟩
 replace HS := HS.got hb hO_
 dsimp only [List.cons_append, List.nil_append] at HS
 clear hO_
 exact by (
 obtain ⟨I111, bl112, HS⟩ := HS.unseal (sz := 1) rfl
 replace HS := HS.freezeN 1 (p := (rF kI t106 I111)) rfl (fun _ hP_ _ => RepsB.reps hP_)
 dsimp only [List.eraseIdx] at HS
 refine ⟨_, rfl, ?_⟩
 clear hb
 obtain ⟨A113, c114, rfl⟩ := row_slice (HS.mu 0 rfl)
 obtain ⟨t115, ha116, H⟩ := bind_some H
 refine cs_ HS func24 (laws_eqIntS.runs k A63 c64 t55 A113 c114 t106 t115 _ (row_C rfl (HS.mu 6 rfl) (HS.getN 1 rfl)) (row_le (HS.mu 6 rfl)) (row_C rfl (HS.mu 0 rfl) (HS.getN 0 rfl)) (row_le (HS.mu 0 rfl)) ha116) (fun w117 HS => ?_)
 exact by (
 clear ha116
 refine nt_ ?_
 refine dn_ hK105 ?_
 clear hK105
 rcases eti_ H with ⟨c118, H⟩ | ⟨c118, H⟩
 · refine wy_ (nB (bF c118)) (sr_ fun _ hK392 => ?_)
   refine ad_ hK392 ?_
   clear hK392
   obtain rfl := os H
   exact rt1 Tryz.f5 rfl rfl hR_ ⟨rfl, HS.b⟩
 exact by (
 refine wn_ (nB c118) (WC.skip (via_ hK104 (sr_ fun _ hK119 => ?_)))
 clear hK104
 refine ad_ hK119 ?_
 clear hK119
 refine sr_ fun _ hK120 => ?_
 refine v_ (Run.loadS (cs := cs48) rfl rfl underlying34 rfl (by rw [el50]; kernel_rfl) (box_part (HS.mu 7 rfl) part_all)) ?_
 refine mv_ ?_
 replace HS := HS.front 8 rfl
 exact by (
 dsimp only [List.eraseIdx] at HS
 replace HS := HS.openIso
 (try dsimp only at HS)
 obtain ⟨cs122, cs123, bl124, bl125, rfl, HS⟩ := HS.openPair
 dsimp only at HS
 obtain ⟨rfl, HS⟩ := HS.openInt
 obtain ⟨cs126, cs127, bl128, bl129, rfl, HS⟩ := HS.openPair
 dsimp only at HS
 obtain ⟨rfl, HS⟩ := HS.openInt
 exact by (
 obtain ⟨cs130, cs131, bl132, bl133, rfl, HS⟩ := HS.openPair
 dsimp only at HS
 obtain ⟨rfl, HS⟩ := HS.openInt
 obtain ⟨cs134, cs135, bl136, bl137, rfl, HS⟩ := HS.openPair
 dsimp only at HS
 obtain ⟨v138, rfl, HS⟩ := HS.openSl
 obtain ⟨I139, bl140, HS⟩ := HS.unseal (sz := 2) rfl
 replace HS := HS.front 2 rfl
 exact by (
 dsimp only [List.eraseIdx] at HS
 obtain ⟨cs141, cs142, bl143, bl144, rfl, HS⟩ := HS.openPair
 dsimp only at HS
 obtain ⟨v145, rfl, HS⟩ := HS.openSl
 obtain ⟨I146, bl147, HS⟩ := HS.unseal (sz := 1) rfl
 replace HS := HS.front 2 rfl
 dsimp only [List.eraseIdx] at HS
 obtain ⟨cs148, cs149, bl150, bl151, rfl, HS⟩ := HS.openPair
 exact by (
 dsimp only at HS
 obtain ⟨v152, rfl, HS⟩ := HS.openSl
 obtain ⟨I153, bl154, HS⟩ := HS.unseal (sz := 32) rfl
 replace HS := HS.front 2 rfl
 dsimp only [List.eraseIdx] at HS
 obtain ⟨cs155, cs156, bl157, bl158, rfl, HS⟩ := HS.openPair
 dsimp only at HS
 obtain ⟨v159, rfl, HS⟩ := HS.openSl
 exact by (
 obtain ⟨I160, bl161, HS⟩ := HS.unseal (sz := 1) rfl
 replace HS := HS.front 2 rfl
 dsimp only [List.eraseIdx] at HS
 obtain ⟨cs162, cs163, bl164, bl165, rfl, HS⟩ := HS.openPair
 dsimp only at HS
 replace HS := HS.openIso
 (try dsimp only at HS)
 obtain ⟨cs166, cs167, bl168, bl169, rfl, HS⟩ := HS.openPair
 exact by (
 dsimp only at HS
 obtain ⟨rfl, HS⟩ := HS.openInt
 obtain ⟨cs170, cs171, bl172, bl173, rfl, HS⟩ := HS.openPair
 dsimp only at HS
 obtain ⟨v174, rfl, HS⟩ := HS.openSl
 obtain ⟨I175, bl176, HS⟩ := HS.unseal (sz := 1) rfl
 replace HS := HS.front 2 rfl
 dsimp only [List.eraseIdx] at HS
 exact by (
 obtain ⟨cs177, cs178, bl179, bl180, rfl, HS⟩ := HS.openPair
 dsimp only at HS
 obtain ⟨v181, rfl, HS⟩ := HS.openSl
 obtain ⟨I182, bl183, HS⟩ := HS.unseal (sz := 1) rfl
 replace HS := HS.front 2 rfl
 dsimp only [List.eraseIdx] at HS
 obtain ⟨cs184, cs185, bl186, bl187, rfl, HS⟩ := HS.openPair
 dsimp only at HS
 obtain ⟨rfl, HS⟩ := HS.openInt
 obtain ⟨rfl, HS⟩ := HS.openInt
 exact by (
 replace HS := HS.front 4 rfl
 dsimp only [List.eraseIdx] at HS
 replace HS := HS.openIso
 (try dsimp only at HS)
 obtain ⟨cs188, cs189, bl190, bl191, rfl, HS⟩ := HS.openPair
 dsimp only at HS
 obtain ⟨v192, rfl, HS⟩ := HS.openSl
 obtain ⟨I193, bl194, HS⟩ := HS.unseal (sz := 1) rfl
 exact by (
 replace HS := HS.front 2 rfl
 dsimp only [List.eraseIdx] at HS
 obtain ⟨v195, rfl, HS⟩ := HS.openSl
 obtain ⟨I196, bl197, HS⟩ := HS.unseal (sz := 1) rfl
 (try simp only [List.cons_append, List.nil_append] at HS)
 (try simp only [List.cons_append, List.nil_append])
 obtain ⟨A198, c199, rfl⟩ := row_slice (HS.mu 14 rfl)
 obtain ⟨A200, c201, rfl⟩ := row_slice (HS.mu 12 rfl)
 exact by (
 obtain ⟨A202, c203, rfl⟩ := row_slice (HS.mu 10 rfl)
 obtain ⟨A204, c205, rfl⟩ := row_slice (HS.mu 8 rfl)
 obtain ⟨A206, c207, rfl⟩ := row_slice (HS.mu 6 rfl)
 obtain ⟨A208, c209, rfl⟩ := row_slice (HS.mu 4 rfl)
 obtain ⟨A210, c211, rfl⟩ := row_slice (HS.mu 2 rfl)
 obtain ⟨A212, c213, rfl⟩ := row_slice (HS.mu 0 rfl)
 refine ci_ (args := [.agg #[vi t45.f0, vi t45.f1, vi t45.f2, (.slice A198 t45.f3.length c199), (.slice A200 t45.f4.length c201), (.slice A202 t45.f5.length c203), (.slice A204 t45.f6.length c205), vi t45.f7.f0, (.slice A206 t45.f7.f1.length c207), (.slice A208 t45.f7.f2.length c209), vi t45.f7.f3, vi t45.f7.f4, (.slice A210 t45.f8.f0.length c211), (.slice A212 t45.f8.f1.length c213)], vi 1]) func16 ?_
 refine cw_ (n := 30) func16 fun _ hR121 => ?_
 exact by (
 refine sr_ fun _ hK214 => ?_
 refine bo_ HS (fun b215 w216 hb215 HS => ?_)
 refine ad_ hK214 ?_
 clear hK214
 refine sr_ fun _ hK217 => ?_
 refine v_ (fa_ underlying34) ?_
 refine v_ (lb_ (HS.mu 0 rfl) underlying25 rfl) ?_
 refine mv_ ?_
 exact by (
 replace HS := HS.front 16 rfl
 dsimp only [List.eraseIdx] at HS
 replace HS := HS.front 16 rfl
 dsimp only [List.eraseIdx] at HS
 replace HS := HS.seal rfl rfl
 obtain ⟨Lv218, hL219, HS⟩ := HS.pre2 lf114
 obtain ⟨⟨q220, q221⟩, H⟩ := if_some H
 refine c_ func79 (laws_markMergeS.leaf A198 t45.f3.length c199 1 Lv218 _ (HS.preK 0 rfl) q220 (by rw [hL219]; exact q221) (1 + ((n25 t45.f3) : Int)) (by rw [hL219]; rfl)) ?_
 exact by (
 rintro _ w222 ⟨rfl, hm_⟩
 replace HS := HS.marked 0 rfl hm_
 dsimp only [List.set] at HS
 refine ⟨_, rfl, ?_⟩
 clear hm_
 have hn223 : ¬ (1 + ((n25 t45.f3) : Int)) < 0 := by omega
 refine ad_ hK217 ?_
 clear hK217
 exact by (
 refine sr_ fun _ hK224 => ?_
 refine v_ (fa_ underlying34) ?_
 refine v_ (lb_ (HS.mu 1 rfl) underlying26 rfl) ?_
 refine mv_ ?_
 replace HS := HS.front 15 rfl
 dsimp only [List.eraseIdx] at HS
 replace HS := HS.front 15 rfl
 dsimp only [List.eraseIdx] at HS
 exact by (
 replace HS := HS.seal rfl rfl
 obtain ⟨Lv225, hL226, HS⟩ := HS.pre2 lf28
 obtain ⟨⟨q227, q228⟩, H⟩ := if_some H
 refine c_ func80 (laws_markIntSS.leaf A200 t45.f4.length c201 (1 + ((n25 t45.f3) : Int)) Lv225 _ (HS.preK 0 rfl) q227 (by rw [hL226]; exact q228) ((1 + ((n25 t45.f3) : Int)) + ((n26 t45.f4) : Int)) (by rw [hL226]; rfl)) ?_
 rintro _ w229 ⟨rfl, hm_⟩
 replace HS := HS.marked 0 rfl hm_
 dsimp only [List.set] at HS
 refine ⟨_, rfl, ?_⟩
 exact by (
 clear hm_
 have hn230 : ¬ ((1 + ((n25 t45.f3) : Int)) + ((n26 t45.f4) : Int)) < 0 := by omega
 refine ad_ hK224 ?_
 clear hK224
 refine sr_ fun _ hK231 => ?_
 refine v_ (fa_ underlying34) ?_
 refine v_ (lb_ (HS.mu 2 rfl) underlying27 rfl) ?_
 refine mv_ ?_
 exact by (
 replace HS := HS.front 14 rfl
 dsimp only [List.eraseIdx] at HS
 replace HS := HS.front 14 rfl
 dsimp only [List.eraseIdx] at HS
 replace HS := HS.seal rfl rfl
 obtain ⟨Lv232, hL233, HS⟩ := HS.pre2 lf118
 obtain ⟨⟨q234, q235⟩, H⟩ := if_some H
 refine c_ func81 (laws_markLayerS.leaf A202 t45.f5.length c203 ((1 + ((n25 t45.f3) : Int)) + ((n26 t45.f4) : Int)) Lv232 _ (HS.preK 0 rfl) q234 (by rw [hL233]; exact q235) (((1 + ((n25 t45.f3) : Int)) + ((n26 t45.f4) : Int)) + ((n27 t45.f5) : Int)) (by rw [hL233]; rfl)) ?_
 exact by (
 rintro _ w236 ⟨rfl, hm_⟩
 replace HS := HS.marked 0 rfl hm_
 dsimp only [List.set] at HS
 refine ⟨_, rfl, ?_⟩
 clear hm_
 have hn237 : ¬ (((1 + ((n25 t45.f3) : Int)) + ((n26 t45.f4) : Int)) + ((n27 t45.f5) : Int)) < 0 := by omega
 refine ad_ hK231 ?_
 clear hK231
 exact by (
 refine sr_ fun _ hK238 => ?_
 refine v_ (fa_ underlying34) ?_
 refine v_ (lb_ (HS.mu 3 rfl) underlying28 rfl) ?_
 refine mv_ ?_
 replace HS := HS.front 13 rfl
 dsimp only [List.eraseIdx] at HS
 replace HS := HS.front 13 rfl
 dsimp only [List.eraseIdx] at HS
 exact by (
 replace HS := HS.seal rfl rfl
 obtain ⟨Lv239, hL240, HS⟩ := HS.pre2 lf3
 obtain ⟨⟨q241, q242⟩, H⟩ := if_some H
 refine c_ func25 (laws_markIntS.leaf A204 t45.f6.length c205 (((1 + ((n25 t45.f3) : Int)) + ((n26 t45.f4) : Int)) + ((n27 t45.f5) : Int)) Lv239 _ (HS.preK 0 rfl) q241 (by rw [hL240]; exact q242) ((((1 + ((n25 t45.f3) : Int)) + ((n26 t45.f4) : Int)) + ((n27 t45.f5) : Int)) + ((n28 t45.f6) : Int)) (by rw [hL240]; rfl)) ?_
 rintro _ w243 ⟨rfl, hm_⟩
 replace HS := HS.marked 0 rfl hm_
 dsimp only [List.set] at HS
 refine ⟨_, rfl, ?_⟩
 exact by (
 clear hm_
 have hn244 : ¬ ((((1 + ((n25 t45.f3) : Int)) + ((n26 t45.f4) : Int)) + ((n27 t45.f5) : Int)) + ((n28 t45.f6) : Int)) < 0 := by omega
 refine ad_ hK238 ?_
 clear hK238
 refine sr_ fun _ hK245 => ?_
 refine v_ (fa_ underlying34) ?_
 refine v_ (ls_ (HS.mu 4 rfl) underlying30 (part_cons rfl (part_cons rfl (part_cons rfl (part_cons rfl (part_cons rfl part_nil)))))) ?_
 refine mv_ ?_
 exact by (
 refine ci_ (args := [.agg #[vi t45.f7.f0, (.slice A206 t45.f7.f1.length c207), (.slice A208 t45.f7.f2.length c209), vi t45.f7.f3, vi t45.f7.f4], vi ((((1 + ((n25 t45.f3) : Int)) + ((n26 t45.f4) : Int)) + ((n27 t45.f5) : Int)) + ((n28 t45.f6) : Int))]) func82 ?_
 refine cw_ (n := 14) func82 fun _ hR246 => ?_
 refine sr_ fun _ hK247 => ?_
 refine bo_ HS (fun b248 w249 hb248 HS => ?_)
 refine ad_ hK247 ?_
 clear hK247
 refine sr_ fun _ hK250 => ?_
 refine v_ (fa_ underlying30) ?_
 exact by (
 refine v_ (lb_ (HS.mu 0 rfl) underlying26 rfl) ?_
 refine mv_ ?_
 replace HS := HS.front 13 rfl
 dsimp only [List.eraseIdx] at HS
 replace HS := HS.front 13 rfl
 dsimp only [List.eraseIdx] at HS
 replace HS := HS.seal rfl rfl
 obtain ⟨Lv251, hL252, HS⟩ := HS.pre2 lf28
 exact by (
 obtain ⟨⟨q253, q254⟩, H⟩ := if_some H
 refine c_ func80 (laws_markIntSS.leaf A206 t45.f7.f1.length c207 ((((1 + ((n25 t45.f3) : Int)) + ((n26 t45.f4) : Int)) + ((n27 t45.f5) : Int)) + ((n28 t45.f6) : Int)) Lv251 _ (HS.preK 0 rfl) q253 (by rw [hL252]; exact q254) (((((1 + ((n25 t45.f3) : Int)) + ((n26 t45.f4) : Int)) + ((n27 t45.f5) : Int)) + ((n28 t45.f6) : Int)) + ((n26 t45.f7.f1) : Int)) (by rw [hL252]; rfl)) ?_
 rintro _ w255 ⟨rfl, hm_⟩
 replace HS := HS.marked 0 rfl hm_
 dsimp only [List.set] at HS
 refine ⟨_, rfl, ?_⟩
 clear hm_
 have hn256 : ¬ (((((1 + ((n25 t45.f3) : Int)) + ((n26 t45.f4) : Int)) + ((n27 t45.f5) : Int)) + ((n28 t45.f6) : Int)) + ((n26 t45.f7.f1) : Int)) < 0 := by omega
 exact by (
 refine ad_ hK250 ?_
 clear hK250
 refine sr_ fun _ hK257 => ?_
 refine v_ (fa_ underlying30) ?_
 refine v_ (lb_ (HS.mu 1 rfl) underlying26 rfl) ?_
 refine mv_ ?_
 replace HS := HS.front 12 rfl
 dsimp only [List.eraseIdx] at HS
 exact by (
 replace HS := HS.front 12 rfl
 dsimp only [List.eraseIdx] at HS
 replace HS := HS.seal rfl rfl
 obtain ⟨Lv258, hL259, HS⟩ := HS.pre2 lf28
 obtain ⟨⟨q260, q261⟩, H⟩ := if_some H
 refine c_ func80 (laws_markIntSS.leaf A208 t45.f7.f2.length c209 (((((1 + ((n25 t45.f3) : Int)) + ((n26 t45.f4) : Int)) + ((n27 t45.f5) : Int)) + ((n28 t45.f6) : Int)) + ((n26 t45.f7.f1) : Int)) Lv258 _ (HS.preK 0 rfl) q260 (by rw [hL259]; exact q261) ((((((1 + ((n25 t45.f3) : Int)) + ((n26 t45.f4) : Int)) + ((n27 t45.f5) : Int)) + ((n28 t45.f6) : Int)) + ((n26 t45.f7.f1) : Int)) + ((n26 t45.f7.f2) : Int)) (by rw [hL259]; rfl)) ?_
 rintro _ w262 ⟨rfl, hm_⟩
 replace HS := HS.marked 0 rfl hm_
 exact by (
 dsimp only [List.set] at HS
 refine ⟨_, rfl, ?_⟩
 clear hm_
 have hn263 : ¬ ((((((1 + ((n25 t45.f3) : Int)) + ((n26 t45.f4) : Int)) + ((n27 t45.f5) : Int)) + ((n28 t45.f6) : Int)) + ((n26 t45.f7.f1) : Int)) + ((n26 t45.f7.f2) : Int)) < 0 := by omega
 refine ad_ hK257 ?_
 clear hK257
 refine sr_ fun _ hK264 => ?_
 refine mv_ ?_
 exact by (
 refine ad_ hK264 ?_
 clear hK264
 refine WC.ret ?_
 refine fin1 Tryz.f82 rfl rfl hR246 ⟨_, rfl, ?_⟩
 refine ad_ hK245 ?_
 clear hK245
 refine sr_ fun _ hK265 => ?_
 refine v_ (fa_ underlying34) ?_
 exact by (
 refine v_ (ls_ (HS.mu 7 rfl) underlying32 (part_cons rfl (part_cons rfl part_nil))) ?_
 refine mv_ ?_
 refine ci_ (args := [.agg #[(.slice A210 t45.f8.f0.length c211), (.slice A212 t45.f8.f1.length c213)], vi ((((((1 + ((n25 t45.f3) : Int)) + ((n26 t45.f4) : Int)) + ((n27 t45.f5) : Int)) + ((n28 t45.f6) : Int)) + ((n26 t45.f7.f1) : Int)) + ((n26 t45.f7.f2) : Int))]) func83 ?_
 refine cw_ (n := 14) func83 fun _ hR266 => ?_
 refine sr_ fun _ hK267 => ?_
 refine bo_ HS (fun b268 w269 hb268 HS => ?_)
 refine ad_ hK267 ?_
 clear hK267
 exact by (
 refine sr_ fun _ hK270 => ?_
 refine v_ (fa_ underlying32) ?_
 refine v_ (lb_ (HS.mu 0 rfl) underlying26 rfl) ?_
 refine mv_ ?_
 replace HS := HS.front 12 rfl
 dsimp only [List.eraseIdx] at HS
 replace HS := HS.front 12 rfl
 dsimp only [List.eraseIdx] at HS
 exact by (
 replace HS := HS.seal rfl rfl
 obtain ⟨Lv271, hL272, HS⟩ := HS.pre2 lf28
 obtain ⟨⟨q273, q274⟩, H⟩ := if_some H
 refine c_ func80 (laws_markIntSS.leaf A210 t45.f8.f0.length c211 ((((((1 + ((n25 t45.f3) : Int)) + ((n26 t45.f4) : Int)) + ((n27 t45.f5) : Int)) + ((n28 t45.f6) : Int)) + ((n26 t45.f7.f1) : Int)) + ((n26 t45.f7.f2) : Int)) Lv271 _ (HS.preK 0 rfl) q273 (by rw [hL272]; exact q274) (((((((1 + ((n25 t45.f3) : Int)) + ((n26 t45.f4) : Int)) + ((n27 t45.f5) : Int)) + ((n28 t45.f6) : Int)) + ((n26 t45.f7.f1) : Int)) + ((n26 t45.f7.f2) : Int)) + ((n26 t45.f8.f0) : Int)) (by rw [hL272]; rfl)) ?_
 rintro _ w275 ⟨rfl, hm_⟩
 replace HS := HS.marked 0 rfl hm_
 dsimp only [List.set] at HS
 refine ⟨_, rfl, ?_⟩
 exact by (
 clear hm_
 have hn276 : ¬ (((((((1 + ((n25 t45.f3) : Int)) + ((n26 t45.f4) : Int)) + ((n27 t45.f5) : Int)) + ((n28 t45.f6) : Int)) + ((n26 t45.f7.f1) : Int)) + ((n26 t45.f7.f2) : Int)) + ((n26 t45.f8.f0) : Int)) < 0 := by omega
 refine ad_ hK270 ?_
 clear hK270
 refine sr_ fun _ hK277 => ?_
 refine v_ (fa_ underlying32) ?_
 refine v_ (lb_ (HS.mu 1 rfl) underlying26 rfl) ?_
 refine mv_ ?_
 exact by (
 replace HS := HS.front 11 rfl
 dsimp only [List.eraseIdx] at HS
 replace HS := HS.front 11 rfl
 dsimp only [List.eraseIdx] at HS
 replace HS := HS.seal rfl rfl
 obtain ⟨Lv278, hL279, HS⟩ := HS.pre2 lf28
 obtain ⟨⟨q280, q281⟩, H⟩ := if_some H
 refine c_ func80 (laws_markIntSS.leaf A212 t45.f8.f1.length c213 (((((((1 + ((n25 t45.f3) : Int)) + ((n26 t45.f4) : Int)) + ((n27 t45.f5) : Int)) + ((n28 t45.f6) : Int)) + ((n26 t45.f7.f1) : Int)) + ((n26 t45.f7.f2) : Int)) + ((n26 t45.f8.f0) : Int)) Lv278 _ (HS.preK 0 rfl) q280 (by rw [hL279]; exact q281) ((((((((1 + ((n25 t45.f3) : Int)) + ((n26 t45.f4) : Int)) + ((n27 t45.f5) : Int)) + ((n28 t45.f6) : Int)) + ((n26 t45.f7.f1) : Int)) + ((n26 t45.f7.f2) : Int)) + ((n26 t45.f8.f0) : Int)) + ((n26 t45.f8.f1) : Int)) (by rw [hL279]; rfl)) ?_
 exact by (
 rintro _ w282 ⟨rfl, hm_⟩
 replace HS := HS.marked 0 rfl hm_
 dsimp only [List.set] at HS
 refine ⟨_, rfl, ?_⟩
 clear hm_
 have hn283 : ¬ ((((((((1 + ((n25 t45.f3) : Int)) + ((n26 t45.f4) : Int)) + ((n27 t45.f5) : Int)) + ((n28 t45.f6) : Int)) + ((n26 t45.f7.f1) : Int)) + ((n26 t45.f7.f2) : Int)) + ((n26 t45.f8.f0) : Int)) + ((n26 t45.f8.f1) : Int)) < 0 := by omega
 refine ad_ hK277 ?_
 clear hK277
 exact by (
 refine sr_ fun _ hK284 => ?_
 refine mv_ ?_
 refine ad_ hK284 ?_
 clear hK284
 refine WC.ret ?_
 refine fin1 Tryz.f83 rfl rfl hR266 ⟨_, rfl, ?_⟩
 refine ad_ hK265 ?_
 clear hK265
 exact by (
 refine sr_ fun _ hK285 => ?_
 refine mv_ ?_
 refine ad_ hK285 ?_
 clear hK285
 refine WC.ret ?_
 refine fin1 Tryz.f16 rfl rfl hR121 ⟨_, rfl, ?_⟩
 refine ad_ hK120 ?_
 clear hK120
 exact by (
 refine sr_ fun _ hK286 => ?_
 refine mv_ ?_
 refine mv_ ?_
 replace HS := HS.elsF (xs := t55) (inner := I60) (Dk.int .i64) (fun _ _ _ h_ => ⟨h_, rfl⟩) (fun _ => (HS.getN 1 rfl))
 replace HS := HS.front 18 rfl
 dsimp only [List.eraseIdx] at HS
 replace HS := HS.seal rfl rfl
 obtain ⟨Lv287, hL288, HS⟩ := HS.pre2 lf3
 exact by (
 obtain ⟨⟨q289, q290⟩, H⟩ := if_some H
 refine c_ func25 (laws_markIntS.leaf A63 t55.length c64 ((((((((1 + ((n25 t45.f3) : Int)) + ((n26 t45.f4) : Int)) + ((n27 t45.f5) : Int)) + ((n28 t45.f6) : Int)) + ((n26 t45.f7.f1) : Int)) + ((n26 t45.f7.f2) : Int)) + ((n26 t45.f8.f0) : Int)) + ((n26 t45.f8.f1) : Int)) Lv287 _ (HS.preK 0 rfl) q289 (by rw [hL288]; exact q290) (((((((((1 + ((n25 t45.f3) : Int)) + ((n26 t45.f4) : Int)) + ((n27 t45.f5) : Int)) + ((n28 t45.f6) : Int)) + ((n26 t45.f7.f1) : Int)) + ((n26 t45.f7.f2) : Int)) + ((n26 t45.f8.f0) : Int)) + ((n26 t45.f8.f1) : Int)) + ((n28 t55) : Int)) (by rw [hL288]; rfl)) ?_
 rintro _ w291 ⟨rfl, hm_⟩
 replace HS := HS.marked 0 rfl hm_
 dsimp only [List.set] at HS
 refine ⟨_, rfl, ?_⟩
 clear hm_
 have hn292 : ¬ (((((((((1 + ((n25 t45.f3) : Int)) + ((n26 t45.f4) : Int)) + ((n27 t45.f5) : Int)) + ((n28 t45.f6) : Int)) + ((n26 t45.f7.f1) : Int)) + ((n26 t45.f7.f2) : Int)) + ((n26 t45.f8.f0) : Int)) + ((n26 t45.f8.f1) : Int)) + ((n28 t55) : Int)) < 0 := by omega
 exact by (
 refine ad_ hK286 ?_
 clear hK286
 refine WC.seq fun _ hK293 => ?_
 refine sr_ fun _ hK294 => ?_
 refine mv_ ?_
 refine b_ bin_lss ?_
 refine mv_ ?_
 refine on_ (dF hn292) (mv_ ?_)
 exact by (
 refine on_ (dF hn292) (mv_ ?_)
 refine on_ (dF hn292) ?_
 obtain ⟨t295, ha296, H⟩ := bind_some H
 refine cs_ HS func23 (laws_eqPartS.runs k A78 c79 t65.1 A36 c37 t33.1 t295 _ (row_C rfl (HS.mu 16 rfl) (HS.elsK 17 rfl)) (row_le (HS.mu 16 rfl)) (HS.getN 2 rfl) le38 ha296) (fun w297 HS => ?_)
 clear ha296
 refine on_ (dF hn292) (nt_ ?_)
 refine v_ (Run.pickF rfl rfl (dF hn292) rfl) ?_
 refine mv_ ?_
 exact by (
 rcases eti_ H with ⟨c298, H⟩ | ⟨c298, H⟩
 · refine off_ (c' := true) (nB (bF c298)) ?_
   refine WL.know 95 (nB (bF c298)) ?_
   refine fast_ ?_
   refine via_ hK294 (wy_ rfl ?_)
   clear hK294
   refine sr_ fun _ hK391 => ?_
   refine ad_ hK391 ?_
   exact by (
   clear hK391
   obtain rfl := os H
   exact rt1 Tryz.f5 rfl rfl hR_ ⟨rfl, HS.b⟩ )
 refine on_ (nB c298) (mv_ ?_)
 refine on_ (nB c298) (mv_ ?_)
 refine on_ (nB c298) ?_
 obtain ⟨t299, ha300, H⟩ := bind_some H
 refine cs_ HS func23 (laws_eqPartS.runs k A84 c85 t65.2.1 A40 c41 t33.2.1 t299 _ (row_C rfl (HS.mu 14 rfl) (HS.elsK 15 rfl)) (row_le (HS.mu 14 rfl)) (HS.getN 3 rfl) le42 ha300) (fun w301 HS => ?_)
 exact by (
 clear ha300
 refine on_ (nB c298) (nt_ ?_)
 refine v_ (Run.pickF rfl rfl (nB c298) rfl) ?_
 refine mv_ ?_
 rcases eti_ H with ⟨c302, H⟩ | ⟨c302, H⟩
 · refine off_ (c' := true) (nB (bF c302)) ?_
   refine WL.know 101 (nB (bF c302)) ?_
   refine fast_ ?_
   exact by (
   refine via_ hK294 (wy_ rfl ?_)
   clear hK294
   refine sr_ fun _ hK390 => ?_
   refine ad_ hK390 ?_
   clear hK390
   obtain rfl := os H
   exact rt1 Tryz.f5 rfl rfl hR_ ⟨rfl, HS.b⟩ )
 refine on_ (nB c302) (mv_ ?_)
 exact by (
 refine on_ (nB c302) (mv_ ?_)
 refine on_ (nB c302) (v_ (Run.binB rfl rfl rfl (bin_neqB underlying4)) ?_)
 refine v_ (Run.pickF rfl rfl (nB c302) rfl) ?_
 refine dn_ hK294 (wn_ (qF c90) (WC.skip (via_ hK293 (sr_ fun _ hK303 => ?_))))
 clear hK294 hK293
 refine ad_ hK303 ?_
 clear hK303
 refine sr_ fun _ hK304 => ?_
 exact by (
 refine mv_ ?_
 refine mv_ ?_
 replace HS := HS.front 17 rfl
 dsimp only [List.eraseIdx] at HS
 replace HS := HS.front 17 rfl
 dsimp only [List.eraseIdx] at HS
 replace HS := HS.seal rfl rfl
 obtain ⟨Lv305, hL306, HS⟩ := HS.pre2 lf67
 exact by (
 obtain ⟨⟨q307, q308⟩, H⟩ := if_some H
 refine c_ func26 (laws_markPartS.leaf A78 t65.1.length c79 1 Lv305 _ (HS.preK 0 rfl) q307 (by rw [hL306]; exact q308) (1 + ((n49 t65.1) : Int)) (by rw [hL306]; rfl)) ?_
 rintro _ w309 ⟨rfl, hm_⟩
 replace HS := HS.marked 0 rfl hm_
 dsimp only [List.set] at HS
 refine ⟨_, rfl, ?_⟩
 clear hm_
 have hn310 : ¬ (1 + ((n49 t65.1) : Int)) < 0 := by omega
 exact by (
 refine ad_ hK304 ?_
 clear hK304
 refine sr_ fun _ hK311 => ?_
 refine mv_ ?_
 refine mv_ ?_
 replace HS := HS.front 16 rfl
 dsimp only [List.eraseIdx] at HS
 replace HS := HS.front 16 rfl
 exact by (
 dsimp only [List.eraseIdx] at HS
 replace HS := HS.seal rfl rfl
 obtain ⟨Lv312, hL313, HS⟩ := HS.pre2 lf67
 obtain ⟨⟨q314, q315⟩, H⟩ := if_some H
 refine c_ func26 (laws_markPartS.leaf A84 t65.2.1.length c85 (1 + ((n49 t65.1) : Int)) Lv312 _ (HS.preK 0 rfl) q314 (by rw [hL313]; exact q315) ((1 + ((n49 t65.1) : Int)) + ((n49 t65.2.1) : Int)) (by rw [hL313]; rfl)) ?_
 rintro _ w316 ⟨rfl, hm_⟩
 replace HS := HS.marked 0 rfl hm_
 dsimp only [List.set] at HS
 exact by (
 refine ⟨_, rfl, ?_⟩
 clear hm_
 have hn317 : ¬ ((1 + ((n49 t65.1) : Int)) + ((n49 t65.2.1) : Int)) < 0 := by omega
 refine ad_ hK311 ?_
 clear hK311
 refine sr_ fun _ hK318 => ?_
 refine ad_ hK318 ?_
 clear hK318
 exact by (
 refine sr_ fun _ hK319 => ?_
 refine mv_ ?_
 refine mv_ ?_
 refine c_ func27 (laws_heldPartS.leaf A78 t65.1.length c79 1 Lv305 _ (HS.leafK 1 rfl) (HS.leafT 1 rfl) q307 (by rw [hL306]; exact q308) (1 + ((n49 t65.1) : Int)) (by rw [hL306]; rfl)) ?_
 rintro _ w320 ⟨rfl, hm_⟩
 replace HS := HS.below hm_
 refine ⟨_, rfl, ?_⟩
 clear hm_
 exact by (
 have hn321 : ¬ (1 + ((n49 t65.1) : Int)) < 0 := by omega
 refine ad_ hK319 ?_
 clear hK319
 refine WC.seq fun _ hK322 => ?_
 refine sr_ fun _ hK323 => ?_
 refine mv_ ?_
 refine b_ bin_lss ?_
 refine dn_ hK323 (wn_ (dF hn321) (WC.skip (via_ hK322 (sr_ fun _ hK324 => ?_))))
 exact by (
 clear hK323 hK322
 refine mv_ ?_
 refine mv_ ?_
 refine c_ func27 (laws_heldPartS.leaf A84 t65.2.1.length c85 (1 + ((n49 t65.1) : Int)) Lv312 _ (HS.leafK 0 rfl) (HS.leafT 0 rfl) q314 (by rw [hL313]; exact q315) ((1 + ((n49 t65.1) : Int)) + ((n49 t65.2.1) : Int)) (by rw [hL313]; rfl)) ?_
 rintro _ w325 ⟨rfl, hm_⟩
 replace HS := HS.below hm_
 refine ⟨_, rfl, ?_⟩
 clear hm_
 exact by (
 have hn326 : ¬ ((1 + ((n49 t65.1) : Int)) + ((n49 t65.2.1) : Int)) < 0 := by omega
 refine ad_ hK324 ?_
 clear hK324
 refine WC.seq fun _ hK327 => ?_
 refine sr_ fun _ hK328 => ?_
 refine mv_ ?_
 refine b_ bin_lss ?_
 refine dn_ hK328 (wn_ (dF hn326) (WC.skip (via_ hK327 (WC.seq fun _ hK329 => ?_))))
 exact by (
 clear hK328 hK327
 refine sr_ fun _ hK330 => ?_
 refine mv_ ?_
 refine mv_ ?_
 refine b_ bin_neq ?_
 refine dn_ hK330 (wn_ (qF rfl) (WC.skip (via_ hK329 (sr_ fun _ hK331 => ?_))))
 clear hK330 hK329
 refine v_ (Run.loadS (cs := cs0) rfl rfl underlying47 rfl (by rw [el0]; kernel_rfl) (box_part (HS.mu 19 rfl) part_all)) ?_
 exact by (
 obtain ⟨t332, ha333, H⟩ := bind_some H
 refine c_ func20 (laws_toModel.runs k cs0 x0 t332 _ (HS.getO 0 rfl) ha333) ?_
 clear ha333
 rintro _ w334 ⟨cs335, bl336, rfl, hO_, hb⟩
 replace HS := HS.got hb hO_
 dsimp only [List.cons_append, List.nil_append] at HS
 clear hO_
 have el337 : cs335.length = 14 := k34.K_len (HS.valK 0 rfl)
 exact by (
 refine ⟨_, rfl, ?_⟩
 clear hb
 refine mv_ ?_
 refine mv_ ?_
 refine mv_ ?_
 obtain ⟨t338, ha339, H⟩ := bind_some H
 refine c_ func21 (laws_toIntS.runs k A3 c3 l3 t338 _ (HS.getO 1 rfl) hc3 ha339) ?_
 clear ha339
 exact by (
 rintro _ w340 ⟨v341, bl342, rfl, hO_, hb⟩
 replace HS := HS.got hb hO_
 dsimp only [List.cons_append, List.nil_append] at HS
 clear hO_
 obtain ⟨I343, bl344, HS⟩ := HS.unseal (sz := 1) rfl
 replace HS := HS.freezeN 1 (p := (rF kI t338 I343)) rfl (fun _ hP_ _ => RepsB.reps hP_)
 dsimp only [List.eraseIdx] at HS
 refine ⟨_, rfl, ?_⟩
 exact by (
 clear hb
 obtain ⟨A345, c346, rfl⟩ := row_slice (HS.mu 0 rfl)
 obtain ⟨t347, ha348, H⟩ := bind_some H
 refine c_ func22 (impl_KeyValue.runs k cs335 t332 a1 a2 A345 c346 t338 t347.1 t347.2.1 t347.2.2 _ (HS.valK 1 rfl) (row_C rfl (HS.mu 0 rfl) (HS.getN 0 rfl)) (row_le (HS.mu 0 rfl)) ha348) ?_
 clear ha348
 rintro _ w349 ⟨v350, bl351, v352, bl353, rfl, hO_, hb⟩
 replace HS := HS.got hb hO_
 dsimp only [List.cons_append, List.nil_append] at HS
 exact by (
 clear hO_
 obtain ⟨I354, bl355, HS⟩ := HS.unseal (sz := 2) rfl
 replace HS := HS.front 2 rfl
 dsimp only [List.eraseIdx] at HS
 obtain ⟨I356, bl357, HS⟩ := HS.unseal (sz := 2) rfl
 refine ⟨_, rfl, ?_⟩
 clear hb
 refine mv_ ?_
 exact by (
 refine v_ (Run.extract rfl rfl rfl) ?_
 refine v_ (Run.extract rfl rfl rfl) ?_
 refine v_ (Run.extract rfl rfl rfl) ?_
 refine fast_ ?_
 refine via_ hK331 (WC.seq fun _ hK358 => ?_)
 clear hK331
 refine sr_ fun _ hK359 => ?_
 refine mv_ ?_
 exact by (
 refine mv_ ?_
 obtain ⟨A360, c361, rfl⟩ := row_slice (HS.mu 2 rfl)
 obtain ⟨t362, ha363, H⟩ := bind_some H
 refine cs_ HS func23 (laws_eqPartS.runs k A360 c361 t347.1 A36 c37 t33.1 t362 _ (row_C rfl (HS.mu 2 rfl) (HS.elsK 3 rfl)) (row_le (HS.mu 2 rfl)) (HS.getN 3 rfl) le38 ha363) (fun w364 HS => ?_)
 clear ha363
 refine nt_ ?_
 refine mv_ ?_
 rcases eti_ H with ⟨c365, H⟩ | ⟨c365, H⟩
 · refine off_ (c' := true) (nB (bF c365)) ?_
   exact by (
   refine WL.know 140 (nB (bF c365)) ?_
   refine fast_ ?_
   refine via_ hK359 (wy_ rfl ?_)
   clear hK359
   refine sr_ fun _ hK389 => ?_
   refine ad_ hK389 ?_
   clear hK389
   obtain rfl := os H
   exact rt1 Tryz.f5 rfl rfl hR_ ⟨rfl, HS.b⟩ )
 exact by (
 refine on_ (nB c365) (mv_ ?_)
 refine on_ (nB c365) (mv_ ?_)
 refine on_ (nB c365) ?_
 obtain ⟨A366, c367, rfl⟩ := row_slice (HS.mu 0 rfl)
 obtain ⟨t368, ha369, H⟩ := bind_some H
 refine cs_ HS func23 (laws_eqPartS.runs k A366 c367 t347.2.1 A40 c41 t33.2.1 t368 _ (row_C rfl (HS.mu 0 rfl) (HS.elsK 1 rfl)) (row_le (HS.mu 0 rfl)) (HS.getN 4 rfl) le42 ha369) (fun w370 HS => ?_)
 clear ha369
 refine on_ (nB c365) (nt_ ?_)
 exact by (
 refine v_ (Run.pickF rfl rfl (nB c365) rfl) ?_
 refine mv_ ?_
 rcases eti_ H with ⟨c371, H⟩ | ⟨c371, H⟩
 · refine off_ (c' := true) (nB (bF c371)) ?_
   refine WL.know 146 (nB (bF c371)) ?_
   refine fast_ ?_
   refine via_ hK359 (wy_ rfl ?_)
   clear hK359
   exact by (
   refine sr_ fun _ hK388 => ?_
   refine ad_ hK388 ?_
   clear hK388
   obtain rfl := os H
   exact rt1 Tryz.f5 rfl rfl hR_ ⟨rfl, HS.b⟩ )
 refine on_ (nB c371) (mv_ ?_)
 refine on_ (nB c371) (mv_ ?_)
 refine on_ (nB c371) (v_ (Run.binB rfl rfl rfl (bin_neqB underlying4)) ?_)
 exact by (
 refine v_ (Run.pickF rfl rfl (nB c371) rfl) ?_
 refine dn_ hK359 ?_
 clear hK359
 rcases eti_ H with ⟨c372, H⟩ | ⟨c372, H⟩
 · refine wy_ (qT c372) (sr_ fun _ hK387 => ?_)
   refine ad_ hK387 ?_
   clear hK387
   obtain rfl := os H
   exact rt1 Tryz.f5 rfl rfl hR_ ⟨rfl, HS.b⟩
 exact by (
 refine wn_ (qF c372) (WC.skip (via_ hK358 (sr_ fun _ hK373 => ?_)))
 clear hK358
 refine ad_ hK373 ?_
 clear hK373
 refine sr_ fun _ hK374 => ?_
 refine mv_ ?_
 refine mv_ ?_
 refine c_ func27 (laws_heldPartS.leaf A78 t65.1.length c79 1 Lv305 _ (HS.leafK 7 rfl) (HS.leafT 7 rfl) q307 (by rw [hL306]; exact q308) (1 + ((n49 t65.1) : Int)) (by rw [hL306]; rfl)) ?_
 exact by (
 rintro _ w375 ⟨rfl, hm_⟩
 replace HS := HS.below hm_
 refine ⟨_, rfl, ?_⟩
 clear hm_
 have hn376 : ¬ (1 + ((n49 t65.1) : Int)) < 0 := by omega
 refine ad_ hK374 ?_
 clear hK374
 refine WC.seq fun _ hK377 => ?_
 exact by (
 refine sr_ fun _ hK378 => ?_
 refine mv_ ?_
 refine b_ bin_lss ?_
 refine dn_ hK378 (wn_ (dF hn376) (WC.skip (via_ hK377 (sr_ fun _ hK379 => ?_))))
 clear hK378 hK377
 refine mv_ ?_
 refine mv_ ?_
 refine c_ func27 (laws_heldPartS.leaf A84 t65.2.1.length c85 (1 + ((n49 t65.1) : Int)) Lv312 _ (HS.leafK 6 rfl) (HS.leafT 6 rfl) q314 (by rw [hL313]; exact q315) ((1 + ((n49 t65.1) : Int)) + ((n49 t65.2.1) : Int)) (by rw [hL313]; rfl)) ?_
 exact by (
 rintro _ w380 ⟨rfl, hm_⟩
 replace HS := HS.below hm_
 refine ⟨_, rfl, ?_⟩
 clear hm_
 have hn381 : ¬ ((1 + ((n49 t65.1) : Int)) + ((n49 t65.2.1) : Int)) < 0 := by omega
 refine ad_ hK379 ?_
 clear hK379
 refine WC.seq fun _ hK382 => ?_
 exact by (
 refine sr_ fun _ hK383 => ?_
 refine mv_ ?_
 refine b_ bin_lss ?_
 refine dn_ hK383 (wn_ (dF hn381) (WC.skip (via_ hK382 (WC.seq fun _ hK384 => ?_))))
 clear hK383 hK382
 refine sr_ fun _ hK385 => ?_
 refine mv_ ?_
 refine mv_ ?_
 exact by (
 refine b_ bin_neq ?_
 refine dn_ hK385 (wn_ (qF rfl) (WC.skip (via_ hK384 (sr_ fun _ hK386 => ?_))))
 clear hK385 hK384
 refine ad_ hK386 ?_
 clear hK386
 obtain rfl := os H
 exact rt1 Tryz.f5 rfl rfl hR_ ⟨rfl, HS.b⟩ )))))))))))))))))))))))))))))))))))))))))))))))))))))))))))))))))))))))))))))))))))))))))))))))
def okT3 (x : Int) : Prop := (Lit.int .i64 x).wf = true
theorem opensT3 : XOpen.Opens prog 3 kI okT3 := XOpen.opens_int underlying3
def okT225 (x : S225) : Prop := okT3 x.f0 ∧ okT3 x.f1
theorem opensT225 : XOpen.Opens prog 225 k225 okT225 := by
 intro H enc w base held fuel cs x h
 obtain ⟨xs, n, _, _, hl, hlen, hf⟩ := DataW.trod_struct underlying225 h
 obtain ⟨a0, p0⟩ := XOpen.part_field hlen hf 0 rfl (by kernel_rfl) opensT3
 obtain ⟨a1, p1⟩ := XOpen.part_field hlen hf 1 rfl (by kernel_rfl) opensT3
 obtain ⟨hk, hg⟩ := XOpen.part_all (XOpen.part_pair p0 p1 rfl) (hl.trans (by kernel_rfl))
 exact ⟨⟨a0, a1⟩, hk, hg⟩
def okT42 (xs : List S225) : Prop := xs.length ≤ 9223372036854775807 ∧ ∀ x ∈ xs, okT225 x
theorem opensT42 : XOpen.Opens prog 42 kS225 okT42 := XOpen.opens_slice underlying42 (by kernel_rfl) opensT225
def okT28 (xs : List Int) : Prop := xs.length ≤ 9223372036854775807 ∧ ∀ x ∈ xs, okT3 x
theorem opensT28 : XOpen.Opens prog 28 kS3 okT28 := XOpen.opens_slice underlying28 (by kernel_rfl) opensT3
def okT26 (xs : List (List Int)) : Prop := xs.length ≤ 9223372036854775807 ∧ ∀ x ∈ xs, okT28 x
theorem opensT26 : XOpen.Opens prog 26 kS28 okT26 := XOpen.opens_slice underlying26 (by kernel_rfl) opensT28
def okT44 (x : S44) : Prop := okT3 x.f0 ∧ okT26 x.f1 ∧ okT26 x.f2 ∧ okT3 x.f3 ∧ okT3 x.f4
theorem opensT44 : XOpen.Opens prog 44 k44 okT44 := by
 intro H enc w base held fuel cs x h
 obtain ⟨xs, n, _, _, hl, hlen, hf⟩ := DataW.trod_struct underlying44 h
 obtain ⟨a0, p0⟩ := XOpen.part_field hlen hf 0 rfl (by kernel_rfl) opensT3
 obtain ⟨a1, p1⟩ := XOpen.part_field hlen hf 1 rfl (by kernel_rfl) opensT26
 obtain ⟨a2, p2⟩ := XOpen.part_field hlen hf 2 rfl (by kernel_rfl) opensT26
 obtain ⟨a3, p3⟩ := XOpen.part_field hlen hf 3 rfl (by kernel_rfl) opensT3
 obtain ⟨a4, p4⟩ := XOpen.part_field hlen hf 4 rfl (by kernel_rfl) opensT3
 obtain ⟨hk, hg⟩ := XOpen.part_all (XOpen.part_pair p0 (XOpen.part_pair p1 (XOpen.part_pair p2 (XOpen.part_pair p3 p4 rfl) rfl) rfl) rfl) (hl.trans (by kernel_rfl))
 exact ⟨⟨a0, a1, a2, a3, a4⟩, hk, hg⟩
def okT215 (x : S215) : Prop := okT28 x.f0 ∧ okT44 x.f1 ∧ okT44 x.f2 ∧ okT44 x.f3 ∧ okT44 x.f4 ∧ okT28 x.f5 ∧ okT44 x.f6 ∧ okT44 x.f7
theorem opensT215 : XOpen.Opens prog 215 k215 okT215 := by
 intro H enc w base held fuel cs x h
 obtain ⟨xs, n, _, _, hl, hlen, hf⟩ := DataW.trod_struct underlying215 h
 obtain ⟨a0, p0⟩ := XOpen.part_field hlen hf 0 rfl (by kernel_rfl) opensT28
 obtain ⟨a1, p1⟩ := XOpen.part_field hlen hf 1 rfl (by kernel_rfl) opensT44
 obtain ⟨a2, p2⟩ := XOpen.part_field hlen hf 2 rfl (by kernel_rfl) opensT44
 obtain ⟨a3, p3⟩ := XOpen.part_field hlen hf 3 rfl (by kernel_rfl) opensT44
 obtain ⟨a4, p4⟩ := XOpen.part_field hlen hf 4 rfl (by kernel_rfl) opensT44
 obtain ⟨a5, p5⟩ := XOpen.part_field hlen hf 5 rfl (by kernel_rfl) opensT28
 obtain ⟨a6, p6⟩ := XOpen.part_field hlen hf 6 rfl (by kernel_rfl) opensT44
 obtain ⟨a7, p7⟩ := XOpen.part_field hlen hf 7 rfl (by kernel_rfl) opensT44
 obtain ⟨hk, hg⟩ := XOpen.part_all (XOpen.part_pair p0 (XOpen.part_pair p1 (XOpen.part_pair p2 (XOpen.part_pair p3 (XOpen.part_pair p4 (XOpen.part_pair p5 (XOpen.part_pair p6 p7 rfl) rfl) rfl) rfl) rfl) rfl) rfl) (hl.trans (by kernel_rfl))
 exact ⟨⟨a0, a1, a2, a3, a4, a5, a6, a7⟩, hk, hg⟩
def okT43 (xs : List S215) : Prop := xs.length ≤ 9223372036854775807 ∧ ∀ x ∈ xs, okT215 x
theorem opensT43 : XOpen.Opens prog 43 kS215 okT43 := XOpen.opens_slice underlying43 (by kernel_rfl) opensT215
def okT45 (x : S45) : Prop := okT26 x.f0 ∧ okT26 x.f1
theorem opensT45 : XOpen.Opens prog 45 k45 okT45 := by
 intro H enc w base held fuel cs x h
 obtain ⟨xs, n, _, _, hl, hlen, hf⟩ := DataW.trod_struct underlying45 h
 obtain ⟨a0, p0⟩ := XOpen.part_field hlen hf 0 rfl (by kernel_rfl) opensT26
 obtain ⟨a1, p1⟩ := XOpen.part_field hlen hf 1 rfl (by kernel_rfl) opensT26
 obtain ⟨hk, hg⟩ := XOpen.part_all (XOpen.part_pair p0 p1 rfl) (hl.trans (by kernel_rfl))
 exact ⟨⟨a0, a1⟩, hk, hg⟩
def okT47 (x : S47) : Prop := okT3 x.f0 ∧ okT3 x.f1 ∧ okT3 x.f2 ∧ okT42 x.f3 ∧ okT26 x.f4 ∧ okT43 x.f5 ∧ okT28 x.f6 ∧ okT44 x.f7 ∧ okT45 x.f8
theorem opensT47 : XOpen.Opens prog 47 k47 okT47 := by
 intro H enc w base held fuel cs x h
 obtain ⟨xs, n, _, _, hl, hlen, hf⟩ := DataW.trod_struct underlying47 h
 obtain ⟨a0, p0⟩ := XOpen.part_field hlen hf 0 rfl (by kernel_rfl) opensT3
 obtain ⟨a1, p1⟩ := XOpen.part_field hlen hf 1 rfl (by kernel_rfl) opensT3
 obtain ⟨a2, p2⟩ := XOpen.part_field hlen hf 2 rfl (by kernel_rfl) opensT3
 obtain ⟨a3, p3⟩ := XOpen.part_field hlen hf 3 rfl (by kernel_rfl) opensT42
 obtain ⟨a4, p4⟩ := XOpen.part_field hlen hf 4 rfl (by kernel_rfl) opensT26
 obtain ⟨a5, p5⟩ := XOpen.part_field hlen hf 5 rfl (by kernel_rfl) opensT43
 obtain ⟨a6, p6⟩ := XOpen.part_field hlen hf 6 rfl (by kernel_rfl) opensT28
 obtain ⟨a7, p7⟩ := XOpen.part_field hlen hf 7 rfl (by kernel_rfl) opensT44
 obtain ⟨a8, p8⟩ := XOpen.part_field hlen hf 8 rfl (by kernel_rfl) opensT45
 obtain ⟨hk, hg⟩ := XOpen.part_all (XOpen.part_pair p0 (XOpen.part_pair p1 (XOpen.part_pair p2 (XOpen.part_pair p3 (XOpen.part_pair p4 (XOpen.part_pair p5 (XOpen.part_pair p6 (XOpen.part_pair p7 p8 rfl) rfl) rfl) rfl) rfl) rfl) rfl) rfl) (hl.trans (by kernel_rfl))
 exact ⟨⟨a0, a1, a2, a3, a4, a5, a6, a7, a8⟩, hk, hg⟩
def laws_FnExactKeyValue.Pure : Prop := ∀ (x0 : S47) (a1 : Int) (a2 : Int) (l3 : List Int), okT47 x0 → (Lit.int .i64 a1).wf = true → (Lit.int .i64 a2).wf = true → okT28 l3 → ∃ k, laws_FnExactKeyValue.g k x0 a1 a2 l3 = some true
end Go.Proofs.YtoccifnjhbibcaaGreat.PFnExactKeyValue
