/-
  Walks. Conditions: none.
-/
import Derived.Test.YtofplebnlaaceaaW19
set_option linter.unusedVariables false
set_option linter.unusedSimpArgs false
namespace Go.Proofs.Ytofplebnlaaceaa
open Go.RowKit Go.SL
set_option maxHeartbeats 1000000
set_option maxRecDepth 1000000
attribute [local go_sem] dcode_seq dcode_plain dops_nil dops_cons GuardK_none GuardK_some GuardB_tt GuardB_ff GuardB_tf GuardB_ft GuardB_none Rest_app Then_normal Then_ret Then_exit Kont_app dop_makeMap dop_makeSlice dop_nilCheck dop_binOp dop_unOp dop_convert dop_makeInterface dop_makeFunc dop_slice dop_fieldAddr dop_field dop_indexAddr dop_index dop_lookup dop_mapUpdate dop_extract dop_call dop_load dop_store dop_move dop_assign dop_pick PickK_true PickK_false dop_box dop_alloc PtrN_app AlZ_app RowN_app RowK_some BS3_app BS2_app BS1_app fillL putAt_nil putAt_cons cyc_zero cyc_succ BD3_some PlK_nil PlC_app PlK_cons BDA_app BD2_struct BD2_array BD1_app set_set dwp_bind' dwp_pure' dwp_load' dwp_store' dwp_newObj BindK_app fin_value fin_skip fin_enter
  arr_getD getD_zero getD_succ cells_agg cells_int cells_bool cells_ptr cells_slice cells_func List.setIfInBounds_toArray List.set_cons_zero List.set_cons_succ
  List.getElem?_toArray List.getElem?_cons_zero List.getElem?_cons_succ List.map_toArray List.map_cons List.map_nil Option.bind_some
  Hp.own_set Hp.cell_def CellK_some OptK_some StoreK_some dwp_true dcode_ret Post_ret Post_normal ResK_one ResK_none ResK_more ResK_tmp ResK_cell AdK_some ResC_app List.nil_append List.cons_append true_and and_true Bool.not_true Bool.not_false dcode_cond CondK_true CondK_false dcode_block dcode_exit InBlock_normal InBlock_ret InBlock_exit dcode_skip dcode_draw dcode_loop CallK_app OwnC_some RoC_some RoC_none RB_some rval_bind' rval_pure' rval_load' rval_true TI_nil TI_cons TR_app GuardD_tt GuardD_ff GuardD_tf GuardD_ft GuardD_none GuardL_none GuardL_some PutK_app EvK_value EvK_skip EvK_enter stp_nilCheck stp_binOp stp_unOp stp_convert stp_makeFunc stp_slice stp_fieldAddr stp_field stp_indexAddr stp_index stp_extract stp_load stp_callv stp_len stp_min stp_max stp_move stp_assign stp_pick stp_gen InvK_app stp_box stp_alloc IgnK_app WrA_some AtK_app List.contains_nil EqV_app max2_eq min2_eq quo_eq rem_eq notAgg_int notAgg_bool notAgg_ptr notAgg_slice notAgg_func List.push_toArray toArr Hp.own_drop wrote_nil wrote_cons dropAt_some dropAt_undef Hp.none_own ne_eq Fr.ro_new readI_zero readI_succ readC_some allI_nil allI_cons allO_some Option.map_some List.append_toArray List.append_nil Builtin.len_ goInt RoundK_succ readV_zero readV_succ readVC_some
attribute [local go_sem] un0 ru0 sz0 rs0 ag0 ra0 ze0 rz0 un1 ru1 sz1 rs1 ag1 ra1 ze1 rz1 un2 ru2 sz2 rs2 ag2 ra2 ze2 rz2 un3 ru3 sz3 rs3 ag3 ra3 ze3 rz3 un4 ru4 sz4 rs4 ag4 ra4 ze4 rz4 un5 ru5 sz5 rs5 ag5 ra5 ze5 rz5 un6 ru6 sz6 rs6 ag6 ra6 ze6 rz6 un7 ru7 sz7 rs7 ag7 ra7 ze7 rz7 un8 ru8 sz8 rs8 ag8 ra8 ze8 rz8 un9 ru9 sz9 rs9 ag9 ra9 ze9 rz9 un12 ru12 sz12 rs12 ag12 ra12 ze12 rz12 un20 ru20 sz20 rs20 ag20 ra20 ze20 rz20 un22 ru22 ix22 rx22 sz22 rs22 ag22 ra22 ze22 rz22 un24 ru24 sz24 rs24 ag24 ra24 ze24 rz24 un27 ru27 sz27 rs27 ag27 ra27 ze27 rz27 un28 ru28 sz28 rs28 ag28 ra28 ze28 rz28 un29 ru29 ix29 rx29 sz29 rs29 ag29 ra29 ze29 rz29 un30 ru30 sz30 rs30 ag30 ra30 ze30 rz30 un36 ru36 ix36 rx36 sz36 rs36 ag36 ra36 ze36 rz36 un38 ru38 sz38 rs38 ag38 ra38 ze38 rz38 un42 ru42 sz42 rs42 ag42 ra42 ze42 rz42 un46 ru46 sz46 rs46 ag46 ra46 ze46 rz46 un48 ru48 sz48 rs48 ag48 ra48 ze48 rz48 un50 ru50 sz50 rs50 ag50 ra50 ze50 rz50 un52 ru52 sz52 rs52 ag52 ra52 ze52 rz52 un53 ru53 ix53 rx53 sz53 rs53 ag53 ra53 ze53 rz53 un56 ru56 sz56 rs56 ag56 ra56 ze56 rz56 un58 ru58 sz58 rs58 ag58 ra58 ze58 rz58 un60 ru60 ix60 rx60 sz60 rs60 ag60 ra60 ze60 rz60 un61 ru61 ix61 rx61 sz61 rs61 ag61 ra61 ze61 rz61 un63 ru63 sz63 rs63 ag63 ra63 ze63 rz63 un64 ru64 ix64 rx64 sz64 rs64 ag64 ra64 ze64 rz64 un66 ru66 sz66 rs66 ag66 ra66 ze66 rz66 un85 ru85 ix85 rx85 sz85 rs85 ag85 ra85 ze85 rz85 un89 ru89 ix89 rx89 sz89 rs89 ag89 ra89 ze89 rz89 un90 ru90 sz90 rs90 ag90 ra90 ze90 rz90 un100 ru100 ix100 rx100 sz100 rs100 ag100 ra100 ze100 rz100 un103 ru103 sz103 rs103 ag103 ra103 ze103 rz103 un105 ru105 sz105 rs105 ag105 ra105 ze105 rz105 un107 ru107 sz107 rs107 ag107 ra107 ze107 rz107 un110 ru110 sz110 rs110 ag110 ra110 ze110 rz110 un111 ru111 ix111 rx111 sz111 rs111 ag111 ra111 ze111 rz111 un120 ru120 sz120 rs120 ag120 ra120 ze120 rz120 un128 ru128 ix128 rx128 sz128 rs128 ag128 ra128 ze128 rz128 un146 ru146 ix146 rx146 sz146 rs146 ag146 ra146 ze146 rz146 un150 ru150 ix150 rx150 sz150 rs150 ag150 ra150 ze150 rz150 un155 ru155 sz155 rs155 ag155 ra155 ze155 rz155 un157 ru157 sz157 rs157 ag157 ra157 ze157 rz157 un160 ru160 sz160 rs160 ag160 ra160 ze160 rz160 un182 ru182 sz182 rs182 ag182 ra182 ze182 rz182 un191 ru191 sz191 rs191 ag191 ra191 ze191 rz191 un193 ru193 sz193 rs193 ag193 ra193 ze193 rz193 un197 ru197 sz197 rs197 ag197 ra197 ze197 rz197 un200 ru200 sz200 rs200 ag200 ra200 ze200 rz200 un204 ru204 sz204 rs204 ag204 ra204 ze204 rz204 un238 ru238 sz238 rs238 ag238 ra238 ze238 rz238 un244 ru244 sz244 rs244 ag244 ra244 ze244 rz244 un280 ru280 sz280 rs280 ag280 ra280 ze280 rz280 un285 ru285 sz285 rs285 ag285 ra285 ze285 rz285 un288 ru288 ix288 rx288 sz288 rs288 ag288 ra288 ze288 rz288 un300 ru300 sz300 rs300 ag300 ra300 ze300 rz300 un308 ru308 sz308 rs308 ag308 ra308 ze308 rz308 un344 ru344 ix344 rx344 sz344 rs344 ag344 ra344 ze344 rz344 un346 ru346 sz346 rs346 ag346 ra346 ze346 rz346 un400 ru400 sz400 rs400 ag400 ra400 ze400 rz400 en3 re3 en4 re4 en5 re5 en6 re6 en19 re19 en20 re20 en21 re21 en22 re22 en23 re23 en24 re24 en25 re25 en26 re26 en27 re27 en28 re28 en29 re29 en30 re30 en31 re31 en32 re32 en33 re33 en34 re34 en35 re35 en36 re36 en37 re37 en38 re38 en56 re56 en57 re57 en59 re59 en82 re82 en83 re83 en84 re84 en85 re85 en86 re86 en87 re87 en88 re88 en89 re89 en90 re90 en91 re91 en92 re92 en93 re93 en94 re94 en95 re95 en96 re96 en97 re97 en98 re98 en99 re99 en100 re100 en101 re101 en102 re102 en103 re103 en104 re104 en105 re105 en117 re117 en118 re118 en123 re123 en124 re124 en125 re125 en142 re142 en144 re144 en145 re145 en162 re162 en163 re163 en164 re164 en165 re165 en166 re166 en167 re167 en168 re168 en169 re169 en170 re170 en171 re171 en172 re172 en173 re173 en174 re174 en175 re175 en176 re176 en177 re177 en178 re178 en179 re179 en180 re180 en181 re181 en182 re182 en200 re200 en201 re201 en202 re202 en243 re243 en244 re244 en245 re245 en246 re246 en247 re247 en248 re248 en249 re249 en250 re250 en251 re251 en252 re252 en253 re253 en265 re265 dwp_eql4 rval_eql4 dwp_eql27 rval_eql27 eg27 dwp_eql56 rval_eql56 eg56 dwp_eql157 rval_eql157 eg157 dwp_neq4 rval_neq4 dwp_neq27 rval_neq27 dwp_neq157 rval_neq157 dwp_conv5_3 rval_conv5_3 dwp_conv52_3 rval_conv52_3 dwp_conv63_3 rval_conv63_3
attribute [local go_sem] i64w
attribute [local go_sem] dwp_eqGuardE dwp_eqGuardN rval_eqGuardE rval_eqGuardN
theorem play_even (p p' l c c' lo hi : Int) : playV p l l c p' l l c' lo hi = 2000 * (p' - p) + 8 * (l * (c' - c)) := by
  unfold playV rightV leftV
  have e1 : ∀ y : Int, 1000 * p' - 4 * (y - c') * l - (1000 * p - 4 * (y - c) * l) = 1000 * (p' - p) + 4 * (l * (c' - c)) := by
    intro y
    simp only [Int.mul_sub, Int.sub_mul, Int.mul_assoc, Int.mul_comm l]
    omega
  have e2 : ∀ y : Int, 4 * (y - c') * l - 1000 * p' - (4 * (y - c) * l - 1000 * p) = -(1000 * (p' - p) + 4 * (l * (c' - c))) := by
    intro y
    simp only [Int.mul_sub, Int.sub_mul, Int.mul_assoc, Int.mul_comm l]
    omega
  rw [e1, e1, e2, e2]
  omega
def turnsOf (p p' play : Int) : Int := if play < 0 then 0 else if driftV p p' = 0 then 100 else min 100 (1 + play / driftV p p')
theorem turnsOf_bd (p p' play : Int) : 0 ≤ turnsOf p p' play ∧ turnsOf p p' play ≤ 100 := by
  unfold turnsOf
  split
  · omega
  · split
    · omega
    · have : 0 ≤ play / driftV p p' := Int.ediv_nonneg (by omega) (by unfold driftV; omega)
      omega
theorem turnsOf_mono (p p' a b : Int) (h : a ≤ b) : turnsOf p p' a ≤ turnsOf p p' b := by
  have hb := turnsOf_bd p p' b
  unfold turnsOf at hb ⊢
  by_cases ha : a < 0
  · rw [if_pos ha]; exact hb.1
  · have hb2 : ¬ b < 0 := by omega
    by_cases hd : driftV p p' = 0
    · rw [if_neg ha, if_neg hb2, if_pos hd, if_pos hd]; omega
    · have : a / driftV p p' ≤ b / driftV p p' := Int.ediv_le_ediv (by unfold driftV at hd ⊢; omega) h
      rw [if_neg ha, if_neg hb2, if_neg hd, if_neg hd]; omega
theorem topBoltSwap_ok (ro : Addr → Option Value) (q0 q1 q2 p0 p1 p2 p3 r0 r1 v0 v1 v2 v3 : Int) (hq0 : 0 ≤ q0 ∧ q0 < 256) (hq1 : 0 ≤ q1 ∧ q1 < 256) (hq2 : 0 ≤ q2 ∧ q2 < 256) (hp0 : 0 ≤ p0 ∧ p0 < 256) (hp1 : 0 ≤ p1 ∧ p1 < 256) (hp2 : 0 ≤ p2 ∧ p2 < 256) (hp3 : 0 ≤ p3 ∧ p3 < 256) (hr0 : 0 ≤ r0 ∧ r0 < 256) (hr1 : 0 ≤ r1 ∧ r1 < 256) (hv0 : 0 ≤ v0 ∧ v0 < 256) (hv1 : 0 ≤ v1 ∧ v1 < 256) (hv2 : 0 ≤ v2 ∧ v2 < 256) (hv3 : 0 ≤ v3 ∧ v3 < 256) :
    Cr Try.prog 4 #[.agg #[.int .u8 q0, .int .u8 q1, .int .u8 q2, .int .u8 p0, .int .u8 p1, .int .u8 p2, .int .u8 p3, .int .u8 r0, .int .u8 r1], .agg #[.int .u8 v0, .int .u8 v1, .int .u8 v2, .int .u8 v3]] ro (.bool true) := by
  have f1 : Hold (FormOk 10000 577 577 3000 3000 1 0) := ⟨⟨by decide, by decide, by decide, by decide, by decide, by decide, by decide, by decide, by decide, by decide⟩⟩
  have f2 : Hold (FormOk (10000 + v0 % 60) 577 577 3000 3000 1 0) := ⟨⟨by omega, by decide, by decide, by decide, by decide, by decide, by decide, by decide, by omega, by omega⟩⟩
  have bk := Hold.mk (kind_fit (lead := 200) hq0 hq1 hq2 hp0 hp1 hp2 hp3 hr0 hr1 (by decide))
  have w0 : IntKind.i64.wrap v0 = v0 := IntWalk.i64_in _ (by omega)
  have w1 : IntKind.i64.wrap v1 = v1 := IntWalk.i64_in _ (by omega)
  have w2 : IntKind.i64.wrap v2 = v2 := IntWalk.i64_in _ (by omega)
  have w3 : IntKind.i64.wrap v3 = v3 := IntWalk.i64_in _ (by omega)
  have t0 : v0.tmod 60 = v0 % 60 := Int.tmod_eq_emod_of_nonneg hv0.1
  have t2 : v2.tmod 20 = v2 % 20 := Int.tmod_eq_emod_of_nonneg hv2.1
  have t3 : (-v3).tmod 100 = -(v3 % 100) := by rw [Int.neg_tmod, Int.tmod_eq_emod_of_nonneg hv3.1]
  have x0 : IntKind.i64.wrap (10000 + v0 % 60) = 10000 + v0 % 60 := IntWalk.i64_in _ (by omega)
  have x1 : IntKind.i64.wrap (0 - v1) = -v1 := by rw [Int.zero_sub]; exact IntWalk.i64_in _ (by omega)
  have x2 : IntKind.i64.wrap (-v1 + 1) = -v1 + 1 := IntWalk.i64_in _ (by omega)
  have x3 : IntKind.i64.wrap (0 - v3) = -v3 := by rw [Int.zero_sub]; exact IntWalk.i64_in _ (by omega)
  have x4 : IntKind.i64.wrap (v3.tdiv 2) = v3 / 2 := IntWalk.i64_quo _ _ (by omega)
  have x5 : IntKind.i64.wrap (-(v3 % 100) - 7) = -(v3 % 100) - 7 := IntWalk.i64_in _ (by omega)
  have x6 : IntKind.i64.wrap (v3 / 2 + 7) = v3 / 2 + 7 := IntWalk.i64_in _ (by omega)
  have g1 : turnsV 10000 577 577 (-v1) (10000 + v0 % 60) 577 577 (v2 % 20) (-(v3 % 100)) (v3 / 2) = turnsOf 10000 (10000 + v0 % 60) (2000 * (10000 + v0 % 60 - 10000) + 8 * (577 * (v2 % 20 - -v1))) := by unfold turnsV; rw [play_even]; rfl
  have g2 : turnsV 10000 577 577 (-v1 + 1) (10000 + v0 % 60) 577 577 (v2 % 20) (-(v3 % 100)) (v3 / 2) = turnsOf 10000 (10000 + v0 % 60) (2000 * (10000 + v0 % 60 - 10000) + 8 * (577 * (v2 % 20 - (-v1 + 1)))) := by unfold turnsV; rw [play_even]; rfl
  have g3 : turnsV 10000 577 577 (-v1) (10000 + v0 % 60) 577 577 (v2 % 20) (-(v3 % 100) - 7) (v3 / 2 + 7) = turnsOf 10000 (10000 + v0 % 60) (2000 * (10000 + v0 % 60 - 10000) + 8 * (577 * (v2 % 20 - -v1))) := by unfold turnsV; rw [play_even]; rfl
  have h1 := turnsOf_bd 10000 (10000 + v0 % 60) (2000 * (10000 + v0 % 60 - 10000) + 8 * (577 * (v2 % 20 - -v1)))
  have h2 := turnsOf_bd 10000 (10000 + v0 % 60) (2000 * (10000 + v0 % 60 - 10000) + 8 * (577 * (v2 % 20 - (-v1 + 1))))
  have h3 := turnsOf_mono 10000 (10000 + v0 % 60) (2000 * (10000 + v0 % 60 - 10000) + 8 * (577 * (v2 % 20 - (-v1 + 1)))) (2000 * (10000 + v0 % 60 - 10000) + 8 * (577 * (v2 % 20 - -v1))) (by omega)
  generalize turnsOf 10000 (10000 + v0 % 60) (2000 * (10000 + v0 % 60 - 10000) + 8 * (577 * (v2 % 20 - -v1))) = n at *
  generalize turnsOf 10000 (10000 + v0 % 60) (2000 * (10000 + v0 % 60 - 10000) + 8 * (577 * (v2 % 20 - (-v1 + 1)))) = m at *
  have y1 : IntKind.i64.wrap (1000 * n) = 1000 * n := IntWalk.i64_in _ (by omega)
  have y2 : IntKind.i64.wrap (1000 * m) = 1000 * m := IntWalk.i64_in _ (by omega)
  have z1 : ∀ a, endA a 1000 0 0 = 0 := by intro a; unfold endA; simp
  have z2 : ∀ a, endA a 1000 (1000 * n) 0 = 1000 * n := by intro a; unfold endA; simp
  have z3 : ∀ a, endA a 1000 (1000 * m) 0 = 1000 * m := by intro a; unfold endA; simp
  obtain ⟨n1, n2⟩ := h1
  obtain ⟨m1, m2⟩ := h2
  have s1 : (n < 0) = False := by simp; omega
  have s2 : (n > 100) = False := by simp; omega
  have s3 : (m > n) = False := by simp; omega
  have s4 : (n > n) = False := by simp
  have s5 : (1000 * m ≤ 1000 * n) = True := by simp; omega
  have d1 : Hold (-200000 ≤ -(v3 % 100) ∧ -(v3 % 100) ≤ 200000) := ⟨by omega⟩
  have d2 : Hold (-200000 ≤ v3 / 2 ∧ v3 / 2 ≤ 200000) := ⟨by omega⟩
  have d3 : Hold (-(v3 % 100) ≤ v3 / 2) := ⟨by omega⟩
  have d4 : Hold (-200000 ≤ -(v3 % 100) - 7 ∧ -(v3 % 100) - 7 ≤ 200000) := ⟨by omega⟩
  have d5 : Hold (-200000 ≤ v3 / 2 + 7 ∧ v3 / 2 + 7 ≤ 200000) := ⟨by omega⟩
  have d6 : Hold (-(v3 % 100) - 7 ≤ v3 / 2 + 7) := ⟨by omega⟩
  have c1 : Hold (-10000 ≤ -v1 ∧ -v1 ≤ 10000) := ⟨by omega⟩
  have c2 : Hold (-10000 ≤ -v1 + 1 ∧ -v1 + 1 ≤ 10000) := ⟨by omega⟩
  have c3 : Hold (-10000 ≤ v2 % 20 ∧ v2 % 20 ≤ 10000) := ⟨by omega⟩
  have a1 : Hold ((0 : Int) ≤ 0 ∧ (0 : Int) ≤ 1000 * n ∧ 1000 * n ≤ 100000) := ⟨by omega⟩
  have a2 : Hold (0 ≤ 1000 * m ∧ 1000 * m ≤ 1000 * m ∧ 1000 * m ≤ 100000) := ⟨by omega⟩
  replace hq0 := Hold.mk hq0
  replace hq1 := Hold.mk hq1
  replace hq2 := Hold.mk hq2
  replace hp0 := Hold.mk hp0
  replace hp1 := Hold.mk hp1
  replace hp2 := Hold.mk hp2
  replace hp3 := Hold.mk hp3
  replace hr0 := Hold.mk hr0
  replace hr1 := Hold.mk hr1
  clear hv0 hv1 hv2 hv3 h3 n1 n2 m1 m2
  refine Cr.of Try.func4 rfl rfl (fun F hF => ?_)
  simp only [Try.ntmps4, Try.results4, List.size_toArray, List.length_cons, List.length_nil, Nat.reduceAdd, Nat.reduceSub, Array.replicate_succ, Array.replicate_zero, List.push_toArray, List.append_toArray, List.nil_append, List.cons_append]
  simp -implicitDefEqProofs only [go_sem, ↓reduceIte, reduceCtorEq, Nat.reduceAdd, Nat.reduceMul, Nat.reduceMod, Nat.reduceSub, Nat.reduceDiv, Nat.reduceLeDiff, Nat.reduceLT, Int.reduceLE, Int.reduceLT, Int.reduceEq, Int.reduceNeg, Int.reduceMul, Int.reduceAdd, Int.reduceSub, Int.reduceTDiv, Int.reduceTMod, Int.cast_ofNat_Int, Int.reduceBEq, Int.reduceBNe, beq_self_eq_true, bne_self_eq_false, Nat.reduceEqDiff, List.length_cons, List.length_nil, List.size_toArray, Nat.zero_add, Nat.zero_mul, Nat.one_mul, Nat.mul_one, Nat.le_refl, List.getElem?_cons_zero, Option.getD_some, and_self, implies_true, Int.reduceToNat, Int.toNat_natCast, decide_true, decide_false, Bool.true_and, Bool.and_true, Bool.false_and, Bool.and_false, Bool.true_or, Bool.or_true, Bool.false_or, Bool.or_false, Bool.not_true, Bool.not_false, Option.isSome_some, not_true_eq_false, not_false_eq_true]
  subst hF
  repeat' ((first | ((with_reducible refine NewK.intro fun g hg hn => ?_) <;> try simp only [own_none_iff] at hn) | ((with_reducible refine GuardB.split (fun hc => ?_) (fun hc => ?_)) <;> (have hc2 := hc; try simp only [beq_eq_false_iff_ne, beq_iff_eq, ne_eq, bne_iff_ne, bne_eq_false_iff_eq, decide_eq_true_eq, decide_eq_false_iff_not, Bool.not_true, Bool.not_false, Int.not_le, Int.not_lt] at hc2)) | ((with_reducible refine CondK.split (fun hc => ?_) (fun hc => ?_)) <;> (have hc2 := hc; try simp only [beq_eq_false_iff_ne, beq_iff_eq, ne_eq, bne_iff_ne, bne_eq_false_iff_eq, decide_eq_true_eq, decide_eq_false_iff_not, Bool.not_true, Bool.not_false, Int.not_le, Int.not_lt] at hc2)) | ((with_reducible refine PickK.split (fun hc => ?_) (fun hc => ?_)) <;> (have hc2 := hc; try simp only [beq_eq_false_iff_ne, beq_iff_eq, ne_eq, bne_iff_ne, bne_eq_false_iff_eq, decide_eq_true_eq, decide_eq_false_iff_not, Bool.not_true, Bool.not_false, Int.not_le, Int.not_lt] at hc2)) | (with_reducible refine dop_buildSlice ?_) | (with_reducible refine dop_build ?_) | ((with_reducible apply Cr.call (f := 25)); (with_reducible exact armMetric_ok _)) | ((with_reducible apply CallV.of (f := 25) (hi := ni25)); (with_reducible exact armMetric_ok _)) | ((with_reducible apply Cr.call (f := 26)); (with_reducible exact armSpan_ok _ _ _)) | ((with_reducible apply CallV.of (f := 26) (hi := ni26)); (with_reducible exact armSpan_ok _ _ _)) | ((with_reducible apply Cr.call (f := 22)); (with_reducible exact bigTurns_ok _ _ _ _ _ _ _ _ _ _ _ _ _ _ _ _ _ _ f1.out f2.out c1.out c3.out d1.out d2.out d3.out)) | ((with_reducible apply CallV.of (f := 22) (hi := ni22)); (with_reducible exact bigTurns_ok _ _ _ _ _ _ _ _ _ _ _ _ _ _ _ _ _ _ f1.out f2.out c1.out c3.out d1.out d2.out d3.out)) | ((with_reducible apply Cr.call (f := 22)); (with_reducible exact bigTurns_ok _ _ _ _ _ _ _ _ _ _ _ _ _ _ _ _ _ _ f1.out f2.out c2.out c3.out d1.out d2.out d3.out)) | ((with_reducible apply CallV.of (f := 22) (hi := ni22)); (with_reducible exact bigTurns_ok _ _ _ _ _ _ _ _ _ _ _ _ _ _ _ _ _ _ f1.out f2.out c2.out c3.out d1.out d2.out d3.out)) | ((with_reducible apply Cr.call (f := 22)); (with_reducible exact bigTurns_ok _ _ _ _ _ _ _ _ _ _ _ _ _ _ _ _ _ _ f1.out f2.out c1.out c3.out d4.out d5.out d6.out)) | ((with_reducible apply CallV.of (f := 22) (hi := ni22)); (with_reducible exact bigTurns_ok _ _ _ _ _ _ _ _ _ _ _ _ _ _ _ _ _ _ f1.out f2.out c1.out c3.out d4.out d5.out d6.out)) | ((with_reducible apply Cr.call (f := 27)); (with_reducible exact kind_ok _ _ _ _ _ _ _ _ _ _ _ hq0.out hq1.out hq2.out hp0.out hp1.out hp2.out hp3.out hr0.out hr1.out)) | ((with_reducible apply CallV.of (f := 27) (hi := ni27)); (with_reducible exact kind_ok _ _ _ _ _ _ _ _ _ _ _ hq0.out hq1.out hq2.out hp0.out hp1.out hp2.out hp3.out hr0.out hr1.out)) | ((with_reducible apply Cr.call (f := 28)); (with_reducible exact ForceA _ _ _ _ _ _ _ _ _ _ _ _ _ _ _ _ _ _ bk.out (by decide) a1.out)) | ((with_reducible apply CallV.of (f := 28) (hi := ni28)); (with_reducible exact ForceA _ _ _ _ _ _ _ _ _ _ _ _ _ _ _ _ _ _ bk.out (by decide) a1.out)) | ((with_reducible apply Cr.call (f := 28)); (with_reducible exact ForceA _ _ _ _ _ _ _ _ _ _ _ _ _ _ _ _ _ _ bk.out (by decide) a2.out)) | ((with_reducible apply CallV.of (f := 28) (hi := ni28)); (with_reducible exact ForceA _ _ _ _ _ _ _ _ _ _ _ _ _ _ _ _ _ _ bk.out (by decide) a2.out)) | ((with_reducible apply Cr.call (f := 29)); (with_reducible exact SafeA _ _ _ _ _ _ _ _ _ _ _ _ _ _ _ _ _ _ bk.out (by decide) a1.out)) | ((with_reducible apply CallV.of (f := 29) (hi := ni29)); (with_reducible exact SafeA _ _ _ _ _ _ _ _ _ _ _ _ _ _ _ _ _ _ bk.out (by decide) a1.out)) | ((with_reducible apply Cr.call (f := 30)); (with_reducible exact armSwap_ok _)) | ((with_reducible apply CallV.of (f := 30) (hi := ni30)); (with_reducible exact armSwap_ok _)) | ((with_reducible apply Cr.call (f := 31)); (with_reducible exact armBolt_ok _)) | ((with_reducible apply CallV.of (f := 31) (hi := ni31)); (with_reducible exact armBolt_ok _)) | ((with_reducible refine GuardD.split (fun hc => ?_) (fun hc => ?_)) <;> (have hc2 := hc; try simp only [beq_eq_false_iff_ne, beq_iff_eq, ne_eq, bne_iff_ne, bne_eq_false_iff_eq, decide_eq_true_eq, decide_eq_false_iff_not, Bool.not_true, Bool.not_false, Int.not_le, Int.not_lt] at hc2)) | (with_reducible refine stp_build ?_) | (with_reducible refine stp_store ?_) | (with_reducible refine WrB.intro _ (by simp -implicitDefEqProofs only [go_sem, ↓reduceIte, reduceCtorEq, Nat.reduceAdd, Nat.reduceMul, Nat.reduceMod, Nat.reduceSub, Nat.reduceDiv, Nat.reduceLeDiff, Nat.reduceLT, Int.reduceLE, Int.reduceLT, Int.reduceEq, Int.reduceNeg, Int.reduceMul, Int.reduceAdd, Int.reduceSub, Int.reduceTDiv, Int.reduceTMod, Int.cast_ofNat_Int, Int.reduceBEq, Int.reduceBNe, beq_self_eq_true, bne_self_eq_false, Nat.reduceEqDiff, List.length_cons, List.length_nil, List.size_toArray, Nat.zero_add, Nat.zero_mul, Nat.one_mul, Nat.mul_one, Nat.le_refl, List.getElem?_cons_zero, Option.getD_some, and_self, implies_true, Int.reduceToNat, Int.toNat_natCast, decide_true, decide_false, Bool.true_and, Bool.and_true, Bool.false_and, Bool.and_false, Bool.true_or, Bool.or_true, Bool.false_or, Bool.or_false, Bool.not_true, Bool.not_false, Option.isSome_some, not_true_eq_false, not_false_eq_true, *]) (fun h' ho K' hk => by simp -implicitDefEqProofs only [go_sem, ↓reduceIte, reduceCtorEq, Nat.reduceAdd, Nat.reduceMul, Nat.reduceMod, Nat.reduceSub, Nat.reduceDiv, Nat.reduceLeDiff, Nat.reduceLT, Int.reduceLE, Int.reduceLT, Int.reduceEq, Int.reduceNeg, Int.reduceMul, Int.reduceAdd, Int.reduceSub, Int.reduceTDiv, Int.reduceTMod, Int.cast_ofNat_Int, Int.reduceBEq, Int.reduceBNe, beq_self_eq_true, bne_self_eq_false, Nat.reduceEqDiff, List.length_cons, List.length_nil, List.size_toArray, Nat.zero_add, Nat.zero_mul, Nat.one_mul, Nat.mul_one, Nat.le_refl, List.getElem?_cons_zero, Option.getD_some, and_self, implies_true, Int.reduceToNat, Int.toNat_natCast, decide_true, decide_false, Bool.true_and, Bool.and_true, Bool.false_and, Bool.and_false, Bool.true_or, Bool.or_true, Bool.false_or, Bool.or_false, Bool.not_true, Bool.not_false, Option.isSome_some, not_true_eq_false, not_false_eq_true, *]; exact hk) ?_) | ((with_reducible refine DDraw.auto mo ?_ ?_); kernel_rfl)) <;> simp -implicitDefEqProofs only [go_sem, ↓reduceIte, reduceCtorEq, Nat.reduceAdd, Nat.reduceMul, Nat.reduceMod, Nat.reduceSub, Nat.reduceDiv, Nat.reduceLeDiff, Nat.reduceLT, Int.reduceLE, Int.reduceLT, Int.reduceEq, Int.reduceNeg, Int.reduceMul, Int.reduceAdd, Int.reduceSub, Int.reduceTDiv, Int.reduceTMod, Int.cast_ofNat_Int, Int.reduceBEq, Int.reduceBNe, beq_self_eq_true, bne_self_eq_false, Nat.reduceEqDiff, List.length_cons, List.length_nil, List.size_toArray, Nat.zero_add, Nat.zero_mul, Nat.one_mul, Nat.mul_one, Nat.le_refl, List.getElem?_cons_zero, Option.getD_some, and_self, implies_true, Int.reduceToNat, Int.toNat_natCast, decide_true, decide_false, Bool.true_and, Bool.and_true, Bool.false_and, Bool.and_false, Bool.true_or, Bool.or_true, Bool.false_or, Bool.or_false, Bool.not_true, Bool.not_false, Option.isSome_some, not_true_eq_false, not_false_eq_true, *])

end Go.Proofs.Ytofplebnlaaceaa
