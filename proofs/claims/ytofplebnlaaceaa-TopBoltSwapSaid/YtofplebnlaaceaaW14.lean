/-
  Walks. Conditions: none.
-/
import Derived.Test.YtofplebnlaaceaaW13
set_option linter.unusedVariables false
set_option linter.unusedSimpArgs false
namespace Go.Proofs.Ytofplebnlaaceaa
open Go.RowKit Go.SL
set_option maxHeartbeats 1000000
set_option maxRecDepth 1000000
attribute [local go_sem] dcode_seq dcode_plain dops_nil dops_cons GuardK_none GuardK_some GuardB_tt GuardB_ff GuardB_tf GuardB_ft GuardB_none Rest_app Then_normal Then_ret Then_exit Kont_app dop_makeMap dop_makeSlice dop_nilCheck dop_binOp dop_unOp dop_convert dop_makeInterface dop_makeFunc dop_slice dop_fieldAddr dop_field dop_indexAddr dop_index dop_lookup dop_mapUpdate dop_extract dop_call dop_load dop_store dop_move dop_assign dop_pick PickK_true PickK_false dop_box dop_alloc PtrN_app AlZ_app RowN_app RowK_some BS3_app BS2_app BS1_app fillL putAt_nil putAt_cons cyc_zero cyc_succ BD3_some PlK_nil PlC_app PlK_cons BDA_app BD2_struct BD2_array BD1_app set_set dwp_bind' dwp_pure' dwp_load' dwp_store' dwp_newObj BindK_app fin_value fin_skip fin_enter
  arr_getD getD_zero getD_succ cells_agg cells_int cells_bool cells_ptr cells_slice cells_func List.setIfInBounds_toArray List.set_cons_zero List.set_cons_succ
  List.getElem?_toArray List.getElem?_cons_zero List.getElem?_cons_succ List.map_toArray List.map_cons List.map_nil Option.bind_some
  Hp.own_set Hp.cell_def CellK_some OptK_some StoreK_some dwp_true dcode_ret Post_ret Post_normal ResK_one ResK_none ResK_more ResK_tmp ResK_cell AdK_some ResC_app List.nil_append List.cons_append true_and and_true Bool.not_true Bool.not_false dcode_cond CondK_true CondK_false dcode_block dcode_exit InBlock_normal InBlock_ret InBlock_exit dcode_skip dcode_draw dcode_loop CallK_app OwnC_some RoC_some RoC_none RB_some rval_bind' rval_pure' rval_load' rval_true TI_nil TI_cons TR_app GuardD_tt GuardD_ff GuardD_tf GuardD_ft GuardD_none GuardL_none GuardL_some PutK_app EvK_value EvK_skip EvK_enter stp_nilCheck stp_binOp stp_unOp stp_convert stp_makeFunc stp_slice stp_fieldAddr stp_field stp_indexAddr stp_index stp_extract stp_load stp_callv stp_len stp_min stp_max stp_move stp_assign stp_pick stp_gen InvK_app stp_box stp_alloc IgnK_app WrA_some AtK_app List.contains_nil EqV_app max2_eq min2_eq quo_eq rem_eq notAgg_int notAgg_bool notAgg_ptr notAgg_slice notAgg_func List.push_toArray toArr Hp.own_drop wrote_nil wrote_cons dropAt_some dropAt_undef Hp.none_own ne_eq Fr.ro_new readI_zero readI_succ readC_some allI_nil allI_cons allO_some Option.map_some List.append_toArray List.append_nil RoundK_succ readV_zero readV_succ readVC_some
attribute [local go_sem] un0 ru0 sz0 rs0 ag0 ra0 ze0 rz0 un1 ru1 sz1 rs1 ag1 ra1 ze1 rz1 un2 ru2 sz2 rs2 ag2 ra2 ze2 rz2 un3 ru3 sz3 rs3 ag3 ra3 ze3 rz3 un4 ru4 sz4 rs4 ag4 ra4 ze4 rz4 un5 ru5 sz5 rs5 ag5 ra5 ze5 rz5 un6 ru6 sz6 rs6 ag6 ra6 ze6 rz6 un7 ru7 sz7 rs7 ag7 ra7 ze7 rz7 un8 ru8 sz8 rs8 ag8 ra8 ze8 rz8 un9 ru9 sz9 rs9 ag9 ra9 ze9 rz9 un12 ru12 sz12 rs12 ag12 ra12 ze12 rz12 un20 ru20 sz20 rs20 ag20 ra20 ze20 rz20 un22 ru22 ix22 rx22 sz22 rs22 ag22 ra22 ze22 rz22 un24 ru24 sz24 rs24 ag24 ra24 ze24 rz24 un27 ru27 sz27 rs27 ag27 ra27 ze27 rz27 un28 ru28 sz28 rs28 ag28 ra28 ze28 rz28 un29 ru29 ix29 rx29 sz29 rs29 ag29 ra29 ze29 rz29 un30 ru30 sz30 rs30 ag30 ra30 ze30 rz30 un36 ru36 ix36 rx36 sz36 rs36 ag36 ra36 ze36 rz36 un38 ru38 sz38 rs38 ag38 ra38 ze38 rz38 un42 ru42 sz42 rs42 ag42 ra42 ze42 rz42 un46 ru46 sz46 rs46 ag46 ra46 ze46 rz46 un48 ru48 sz48 rs48 ag48 ra48 ze48 rz48 un50 ru50 sz50 rs50 ag50 ra50 ze50 rz50 un52 ru52 sz52 rs52 ag52 ra52 ze52 rz52 un53 ru53 ix53 rx53 sz53 rs53 ag53 ra53 ze53 rz53 un56 ru56 sz56 rs56 ag56 ra56 ze56 rz56 un58 ru58 sz58 rs58 ag58 ra58 ze58 rz58 un60 ru60 ix60 rx60 sz60 rs60 ag60 ra60 ze60 rz60 un61 ru61 ix61 rx61 sz61 rs61 ag61 ra61 ze61 rz61 un63 ru63 sz63 rs63 ag63 ra63 ze63 rz63 un64 ru64 ix64 rx64 sz64 rs64 ag64 ra64 ze64 rz64 un66 ru66 sz66 rs66 ag66 ra66 ze66 rz66 un85 ru85 ix85 rx85 sz85 rs85 ag85 ra85 ze85 rz85 un89 ru89 ix89 rx89 sz89 rs89 ag89 ra89 ze89 rz89 un90 ru90 sz90 rs90 ag90 ra90 ze90 rz90 un100 ru100 ix100 rx100 sz100 rs100 ag100 ra100 ze100 rz100 un103 ru103 sz103 rs103 ag103 ra103 ze103 rz103 un105 ru105 sz105 rs105 ag105 ra105 ze105 rz105 un107 ru107 sz107 rs107 ag107 ra107 ze107 rz107 un110 ru110 sz110 rs110 ag110 ra110 ze110 rz110 un111 ru111 ix111 rx111 sz111 rs111 ag111 ra111 ze111 rz111 un120 ru120 sz120 rs120 ag120 ra120 ze120 rz120 un128 ru128 ix128 rx128 sz128 rs128 ag128 ra128 ze128 rz128 un146 ru146 ix146 rx146 sz146 rs146 ag146 ra146 ze146 rz146 un150 ru150 ix150 rx150 sz150 rs150 ag150 ra150 ze150 rz150 un155 ru155 sz155 rs155 ag155 ra155 ze155 rz155 un157 ru157 sz157 rs157 ag157 ra157 ze157 rz157 un160 ru160 sz160 rs160 ag160 ra160 ze160 rz160 un182 ru182 sz182 rs182 ag182 ra182 ze182 rz182 un191 ru191 sz191 rs191 ag191 ra191 ze191 rz191 un193 ru193 sz193 rs193 ag193 ra193 ze193 rz193 un197 ru197 sz197 rs197 ag197 ra197 ze197 rz197 un200 ru200 sz200 rs200 ag200 ra200 ze200 rz200 un204 ru204 sz204 rs204 ag204 ra204 ze204 rz204 un238 ru238 sz238 rs238 ag238 ra238 ze238 rz238 un244 ru244 sz244 rs244 ag244 ra244 ze244 rz244 un280 ru280 sz280 rs280 ag280 ra280 ze280 rz280 un285 ru285 sz285 rs285 ag285 ra285 ze285 rz285 un288 ru288 ix288 rx288 sz288 rs288 ag288 ra288 ze288 rz288 un300 ru300 sz300 rs300 ag300 ra300 ze300 rz300 un308 ru308 sz308 rs308 ag308 ra308 ze308 rz308 un344 ru344 ix344 rx344 sz344 rs344 ag344 ra344 ze344 rz344 un346 ru346 sz346 rs346 ag346 ra346 ze346 rz346 un400 ru400 sz400 rs400 ag400 ra400 ze400 rz400 en3 re3 en4 re4 en5 re5 en6 re6 en19 re19 en20 re20 en21 re21 en22 re22 en23 re23 en24 re24 en25 re25 en26 re26 en27 re27 en28 re28 en29 re29 en30 re30 en31 re31 en32 re32 en33 re33 en34 re34 en35 re35 en36 re36 en37 re37 en38 re38 en56 re56 en57 re57 en59 re59 en82 re82 en83 re83 en84 re84 en85 re85 en86 re86 en87 re87 en88 re88 en89 re89 en90 re90 en91 re91 en92 re92 en93 re93 en94 re94 en95 re95 en96 re96 en97 re97 en98 re98 en99 re99 en100 re100 en101 re101 en102 re102 en103 re103 en104 re104 en105 re105 en117 re117 en118 re118 en123 re123 en124 re124 en125 re125 en142 re142 en144 re144 en145 re145 en162 re162 en163 re163 en164 re164 en165 re165 en166 re166 en167 re167 en168 re168 en169 re169 en170 re170 en171 re171 en172 re172 en173 re173 en174 re174 en175 re175 en176 re176 en177 re177 en178 re178 en179 re179 en180 re180 en181 re181 en182 re182 en200 re200 en201 re201 en202 re202 en243 re243 en244 re244 en245 re245 en246 re246 en247 re247 en248 re248 en249 re249 en250 re250 en251 re251 en252 re252 en253 re253 en265 re265 dwp_eql4 rval_eql4 dwp_eql27 rval_eql27 eg27 dwp_eql56 rval_eql56 eg56 dwp_eql157 rval_eql157 eg157 dwp_neq4 rval_neq4 dwp_neq27 rval_neq27 dwp_neq157 rval_neq157 dwp_conv5_3 rval_conv5_3 dwp_conv52_3 rval_conv52_3 dwp_conv63_3 rval_conv63_3
attribute [local go_sem] i64w
/-- With one pitch the play is four times what the difference of sizes gives more than the flanks need. -/
theorem play_same (p l r C l' r' lo hi : Int) : playV p l r (-C) p l' r' 0 lo hi = 4 * (C * (l + r) - wideV l r l' r' lo hi) := by
  unfold playV wideV rightV leftV
  simp only [Int.sub_neg, Int.sub_zero, Int.mul_assoc, Int.add_mul, Int.mul_sub, Int.mul_add]
  omega
theorem drift_same (p : Int) : driftV p p = 0 := by unfold driftV; omega
theorem ceil_iff {w d C : Int} (hd : 0 < d) : (w + d - 1) / d ≤ C ↔ w ≤ C * d := by
  rw [Int.le_iff_lt_add_one, Int.ediv_lt_iff_lt_mul hd, Int.add_mul]
  omega
theorem roomV_nonneg (l r l' r' lo hi : Int) (h : 0 < l + r) : 0 ≤ roomV l r l' r' lo hi := by
  unfold roomV
  split
  · omega
  · rw [if_neg (by omega)]
    exact Int.ediv_nonneg (by omega) (by omega)
theorem room_iff (l r l' r' lo hi C : Int) (h : 0 < l + r) (hC : 0 ≤ C) : roomV l r l' r' lo hi ≤ C ↔ wideV l r l' r' lo hi ≤ C * (l + r) := by
  unfold roomV
  split
  · rename_i hw
    have : 0 ≤ C * (l + r) := Int.mul_nonneg hC (by omega)
    constructor <;> intro <;> omega
  · rw [if_neg (by omega)]
    exact ceil_iff h
theorem turns_same (p l r C l' r' lo hi : Int) (h : 0 < l + r) (hC : 0 ≤ C) :
    turnsV p l r (-C) p l' r' 0 lo hi = if roomV l r l' r' lo hi ≤ C then 100 else 0 := by
  unfold turnsV
  rw [play_same, drift_same]
  by_cases hw : roomV l r l' r' lo hi ≤ C
  · have := (room_iff l r l' r' lo hi C h hC).1 hw
    rw [if_neg (by omega), if_pos rfl, if_pos hw]
  · have : ¬ wideV l r l' r' lo hi ≤ C * (l + r) := fun e => hw ((room_iff l r l' r' lo hi C h hC).2 e)
    rw [if_pos (by omega), if_neg hw]
theorem room_bd (l r l' r' lo hi : Int) (hl : 400 ≤ l ∧ l < 656) (hr : 400 ≤ r ∧ r < 656) (hl' : 400 ≤ l' ∧ l' < 656) (hr' : 400 ≤ r' ∧ r' < 656) (h1 : -1200 ≤ lo ∧ lo ≤ 4000) (h2 : -1200 ≤ hi ∧ hi ≤ 4000) :
    0 ≤ roomV l r l' r' lo hi ∧ roomV l r l' r' lo hi ≤ 10000 := by
  refine ⟨roomV_nonneg _ _ _ _ _ _ (by omega), ?_⟩
  rw [room_iff _ _ _ _ _ _ _ (by omega) (by omega)]
  have m1 := mul_bd (a := lo) (b := l' - l) (A := 4000) (B := 256) (by omega) (by omega) (by omega) (by omega)
  have m2 := mul_bd (a := hi) (b := l' - l) (A := 4000) (B := 256) (by omega) (by omega) (by omega) (by omega)
  have m3 := mul_bd (a := lo) (b := r' - r) (A := 4000) (B := 256) (by omega) (by omega) (by omega) (by omega)
  have m4 := mul_bd (a := hi) (b := r' - r) (A := 4000) (B := 256) (by omega) (by omega) (by omega) (by omega)
  unfold wideV
  omega
theorem pubForm_fit {p x y z u : Int} (hx : 0 ≤ x ∧ x < 256) (hy : 0 ≤ y ∧ y < 256) (hz : 0 ≤ z ∧ z < 256) (hu : 0 ≤ u ∧ u < 256) (hp : 9000 ≤ p ∧ p ≤ 10020) :
    FormOk p (400 + y) (400 + z) (1 + 5 * u) (5 * u) 1 0 := by
  have m1 := mul_bd (a := 2 * (1 + 5 * u)) (b := 400 + y + (400 + z)) (A := 2552) (B := 1400) (by omega) (by omega) (by omega) (by omega)
  have m2 := mul_bd (a := 2 * (5 * u)) (b := 400 + y + (400 + z)) (A := 2552) (B := 1400) (by omega) (by omega) (by omega) (by omega)
  exact ⟨by omega, by omega, by omega, by omega, by omega, by omega, by omega, by omega, by omega, by omega⟩
theorem topRoomTurns_ok (ro : Addr → Option Value) (a0 a1 a2 a3 b0 b1 b2 b3 v0 v1 v2 v3 : Int) (ha0 : 0 ≤ a0 ∧ a0 < 256) (ha1 : 0 ≤ a1 ∧ a1 < 256) (ha2 : 0 ≤ a2 ∧ a2 < 256) (ha3 : 0 ≤ a3 ∧ a3 < 256)
    (hb0 : 0 ≤ b0 ∧ b0 < 256) (hb1 : 0 ≤ b1 ∧ b1 < 256) (hb2 : 0 ≤ b2 ∧ b2 < 256) (hb3 : 0 ≤ b3 ∧ b3 < 256) (hv0 : 0 ≤ v0 ∧ v0 < 256) (hv1 : 0 ≤ v1 ∧ v1 < 256) (hv2 : 0 ≤ v2 ∧ v2 < 256) (hv3 : 0 ≤ v3 ∧ v3 < 256) :
    Cr Try.prog 3 #[.agg #[.int .u8 a0, .int .u8 a1, .int .u8 a2, .int .u8 a3], .agg #[.int .u8 b0, .int .u8 b1, .int .u8 b2, .int .u8 b3], .agg #[.int .u8 v0, .int .u8 v1, .int .u8 v2, .int .u8 v3]] ro (.bool true) := by
  have f1 := Hold.mk (pubForm_fit (p := 9000 + 4 * a0) ha0 ha1 ha2 ha3 (by omega))
  have f2 := Hold.mk (pubForm_fit (p := 9000 + 4 * a0) hb0 hb1 hb2 hb3 (by omega))
  have d1 : Hold (-200000 ≤ 8 * v0 - 1200 ∧ 8 * v0 - 1200 ≤ 200000) := ⟨by omega⟩
  have d2 : Hold (-200000 ≤ 8 * v0 - 1200 + 8 * v1 ∧ 8 * v0 - 1200 + 8 * v1 ≤ 200000) := ⟨by omega⟩
  have d3 : Hold (8 * v0 - 1200 ≤ 8 * v0 - 1200 + 8 * v1) := ⟨by omega⟩
  have e1 : IntKind.i64.wrap v2 = v2 := IntWalk.i64_in _ (by omega)
  have e2 : IntKind.i64.wrap v3 = v3 := IntWalk.i64_in _ (by omega)
  have m := mul_bd (a := v2) (b := v3) (A := 255) (B := 255) (by omega) (by omega) (by omega) (by omega)
  have m0 : 0 ≤ v2 * v3 := Int.mul_nonneg (by omega) (by omega)
  have e3 : IntKind.i64.wrap (v2 * v3) = v2 * v3 := IntWalk.i64_in _ (by omega)
  obtain ⟨C, e4, hC⟩ : ∃ C, IntKind.i64.wrap ((v2 * v3).tdiv 9) = C ∧ Hold (0 ≤ C ∧ C ≤ 10000) := ⟨v2 * v3 / 9, IntWalk.i64_quo _ _ (by omega), ⟨by omega⟩⟩
  have e5 : IntKind.i64.wrap (0 - C) = -C := by have := hC.out; rw [IntWalk.i64_in _ (by omega)]; omega
  have hr := room_bd (400 + a1) (400 + a2) (400 + b1) (400 + b2) (8 * v0 - 1200) (8 * v0 - 1200 + 8 * v1) (by omega) (by omega) (by omega) (by omega) (by omega) (by omega)
  have hE : roomE (400 + a1) (400 + a2) (400 + b1) (400 + b2) (8 * v0 - 1200) (8 * v0 - 1200 + 8 * v1) = 0 := by
    unfold roomE
    split
    · rfl
    · rw [if_neg (by omega)]
  have t1 := turns_same (9000 + 4 * a0) (400 + a1) (400 + a2) C (400 + b1) (400 + b2) (8 * v0 - 1200) (8 * v0 - 1200 + 8 * v1) (by omega) hC.out.1
  have t2 := turns_same (9000 + 4 * a0) (400 + a1) (400 + a2) (roomV (400 + a1) (400 + a2) (400 + b1) (400 + b2) (8 * v0 - 1200) (8 * v0 - 1200 + 8 * v1)) (400 + b1) (400 + b2) (8 * v0 - 1200) (8 * v0 - 1200 + 8 * v1) (by omega) hr.1
  rw [if_pos (Int.le_refl _)] at t2
  generalize hR : roomV (400 + a1) (400 + a2) (400 + b1) (400 + b2) (8 * v0 - 1200) (8 * v0 - 1200 + 8 * v1) = R at hr t1 t2
  generalize hT : turnsV (9000 + 4 * a0) (400 + a1) (400 + a2) (-C) (9000 + 4 * a0) (400 + b1) (400 + b2) 0 (8 * v0 - 1200) (8 * v0 - 1200 + 8 * v1) = T at t1
  replace t1 := Hold.mk t1
  have e6 : IntKind.i64.wrap (0 - R) = -R := by rw [IntWalk.i64_in _ (by omega)]; omega
  have hcC : Hold (-10000 ≤ -C ∧ -C ≤ 10000) := ⟨by have := hC.out; omega⟩
  have hcR : Hold (-10000 ≤ -R ∧ -R ≤ 10000) := ⟨by omega⟩
  have z := Hold.mk hr
  clear hr m m0
  replace ha0 := Hold.mk ha0
  replace ha1 := Hold.mk ha1
  replace ha2 := Hold.mk ha2
  replace ha3 := Hold.mk ha3
  replace hb0 := Hold.mk hb0
  replace hb1 := Hold.mk hb1
  replace hb2 := Hold.mk hb2
  replace hb3 := Hold.mk hb3
  replace hv0 := Hold.mk hv0
  replace hv1 := Hold.mk hv1
  clear hv2 hv3
  refine Cr.of Try.func3 rfl rfl (fun F hF => ?_)
  simp only [Try.ntmps3, Try.results3, List.size_toArray, List.length_cons, List.length_nil, Nat.reduceAdd, Nat.reduceSub, Array.replicate_succ, Array.replicate_zero, List.push_toArray, List.append_toArray, List.nil_append, List.cons_append]
  simp only [go_sem, ↓reduceIte, reduceCtorEq, Nat.reduceAdd, Nat.reduceMul, Nat.reduceMod, Nat.reduceSub, Nat.reduceDiv, Nat.reduceLeDiff, Nat.reduceLT, Int.reduceLE, Int.reduceLT, Int.reduceEq, Int.reduceNeg, Int.reduceMul, Int.reduceAdd, Int.reduceSub, Int.cast_ofNat_Int, Int.reduceBEq, Int.reduceBNe, beq_self_eq_true, bne_self_eq_false, Nat.reduceEqDiff, List.length_cons, List.length_nil, List.size_toArray, Nat.zero_add, Nat.zero_mul, Nat.one_mul, Nat.mul_one, Nat.le_refl, List.getElem?_cons_zero, Option.getD_some, and_self, implies_true, Int.reduceToNat, Int.toNat_natCast, decide_true, decide_false, Bool.true_and, Bool.and_true, Bool.false_and, Bool.and_false, Bool.true_or, Bool.or_true, Bool.false_or, Bool.or_false, Bool.not_true, Bool.not_false, Option.isSome_some, not_true_eq_false, not_false_eq_true]
  subst hF
  repeat' ((first | ((with_reducible refine NewK.intro fun g hg hn => ?_) <;> try simp only [own_none_iff] at hn) | ((with_reducible refine GuardB.split (fun hc => ?_) (fun hc => ?_)) <;> (have hc2 := hc; try simp only [beq_eq_false_iff_ne, beq_iff_eq, ne_eq, bne_iff_ne, bne_eq_false_iff_eq, decide_eq_true_eq, decide_eq_false_iff_not, Bool.not_true, Bool.not_false, Int.not_le, Int.not_lt] at hc2)) | ((with_reducible refine CondK.split (fun hc => ?_) (fun hc => ?_)) <;> (have hc2 := hc; try simp only [beq_eq_false_iff_ne, beq_iff_eq, ne_eq, bne_iff_ne, bne_eq_false_iff_eq, decide_eq_true_eq, decide_eq_false_iff_not, Bool.not_true, Bool.not_false, Int.not_le, Int.not_lt] at hc2)) | ((with_reducible refine PickK.split (fun hc => ?_) (fun hc => ?_)) <;> (have hc2 := hc; try simp only [beq_eq_false_iff_ne, beq_iff_eq, ne_eq, bne_iff_ne, bne_eq_false_iff_eq, decide_eq_true_eq, decide_eq_false_iff_not, Bool.not_true, Bool.not_false, Int.not_le, Int.not_lt] at hc2)) | (with_reducible refine dop_buildSlice ?_) | (with_reducible refine dop_build ?_) | ((with_reducible refine GuardD.split (fun hc => ?_) (fun hc => ?_)) <;> (have hc2 := hc; try simp only [beq_eq_false_iff_ne, beq_iff_eq, ne_eq, bne_iff_ne, bne_eq_false_iff_eq, decide_eq_true_eq, decide_eq_false_iff_not, Bool.not_true, Bool.not_false, Int.not_le, Int.not_lt] at hc2)) | (with_reducible refine stp_build ?_) | (with_reducible refine stp_store ?_) | (refine WrB.intro _ (by simp only [go_sem, ↓reduceIte, reduceCtorEq, Nat.reduceAdd, Nat.reduceMul, Nat.reduceMod, Nat.reduceSub, Nat.reduceDiv, Nat.reduceLeDiff, Nat.reduceLT, Int.reduceLE, Int.reduceLT, Int.reduceEq, Int.reduceNeg, Int.reduceMul, Int.reduceAdd, Int.reduceSub, Int.cast_ofNat_Int, Int.reduceBEq, Int.reduceBNe, beq_self_eq_true, bne_self_eq_false, Nat.reduceEqDiff, List.length_cons, List.length_nil, List.size_toArray, Nat.zero_add, Nat.zero_mul, Nat.one_mul, Nat.mul_one, Nat.le_refl, List.getElem?_cons_zero, Option.getD_some, and_self, implies_true, Int.reduceToNat, Int.toNat_natCast, decide_true, decide_false, Bool.true_and, Bool.and_true, Bool.false_and, Bool.and_false, Bool.true_or, Bool.or_true, Bool.false_or, Bool.or_false, Bool.not_true, Bool.not_false, Option.isSome_some, not_true_eq_false, not_false_eq_true, *]) (fun h' ho K' hk => by simp only [go_sem, ↓reduceIte, reduceCtorEq, Nat.reduceAdd, Nat.reduceMul, Nat.reduceMod, Nat.reduceSub, Nat.reduceDiv, Nat.reduceLeDiff, Nat.reduceLT, Int.reduceLE, Int.reduceLT, Int.reduceEq, Int.reduceNeg, Int.reduceMul, Int.reduceAdd, Int.reduceSub, Int.cast_ofNat_Int, Int.reduceBEq, Int.reduceBNe, beq_self_eq_true, bne_self_eq_false, Nat.reduceEqDiff, List.length_cons, List.length_nil, List.size_toArray, Nat.zero_add, Nat.zero_mul, Nat.one_mul, Nat.mul_one, Nat.le_refl, List.getElem?_cons_zero, Option.getD_some, and_self, implies_true, Int.reduceToNat, Int.toNat_natCast, decide_true, decide_false, Bool.true_and, Bool.and_true, Bool.false_and, Bool.and_false, Bool.true_or, Bool.or_true, Bool.false_or, Bool.or_false, Bool.not_true, Bool.not_false, Option.isSome_some, not_true_eq_false, not_false_eq_true, *]; exact hk) ?_) | (refine DDraw.auto mo (by kernel_rfl) ?_) | (refine Cr.call (pubForm_ok _ _ _ _ _ ha0.out ha1.out ha2.out ha3.out) ?_) | (refine CallV.of (pubForm_ok _ _ _ _ _ ha0.out ha1.out ha2.out ha3.out) ni19 ?_) | (refine Cr.call (pubForm_ok _ _ _ _ _ hb0.out hb1.out hb2.out hb3.out) ?_) | (refine CallV.of (pubForm_ok _ _ _ _ _ hb0.out hb1.out hb2.out hb3.out) ni19 ?_) | (refine Cr.call (pubDepth_ok _ _ _ hv0.out hv1.out) ?_) | (refine CallV.of (pubDepth_ok _ _ _ hv0.out hv1.out) ni20 ?_) | (refine Cr.call (room_ok _ _ _ _ _ _ _ _ _ _ _ _ _ _ _ f1.out f2.out d1.out d2.out d3.out) ?_) | (refine CallV.of (room_ok _ _ _ _ _ _ _ _ _ _ _ _ _ _ _ f1.out f2.out d1.out d2.out d3.out) ni21 ?_) | (refine Cr.call (bigTurns_ok _ _ _ _ _ _ _ _ _ _ _ _ _ _ _ _ _ _ f1.out f2.out hcC.out ⟨by decide, by decide⟩ d1.out d2.out d3.out) ?_) | (refine CallV.of (bigTurns_ok _ _ _ _ _ _ _ _ _ _ _ _ _ _ _ _ _ _ f1.out f2.out hcC.out ⟨by decide, by decide⟩ d1.out d2.out d3.out) ni22 ?_) | (refine Cr.call (bigTurns_ok _ _ _ _ _ _ _ _ _ _ _ _ _ _ _ _ _ _ f1.out f2.out hcR.out ⟨by decide, by decide⟩ d1.out d2.out d3.out) ?_) | (refine CallV.of (bigTurns_ok _ _ _ _ _ _ _ _ _ _ _ _ _ _ _ _ _ _ f1.out f2.out hcR.out ⟨by decide, by decide⟩ d1.out d2.out d3.out) ni22 ?_) | (refine Cr.call (pubThread_ok _) ?_) | (refine CallV.of (pubThread_ok _) ni23 ?_) | (refine Cr.call (pubSwap_ok _) ?_) | (refine CallV.of (pubSwap_ok _) ni24 ?_)) <;> simp only [go_sem, ↓reduceIte, reduceCtorEq, Nat.reduceAdd, Nat.reduceMul, Nat.reduceMod, Nat.reduceSub, Nat.reduceDiv, Nat.reduceLeDiff, Nat.reduceLT, Int.reduceLE, Int.reduceLT, Int.reduceEq, Int.reduceNeg, Int.reduceMul, Int.reduceAdd, Int.reduceSub, Int.cast_ofNat_Int, Int.reduceBEq, Int.reduceBNe, beq_self_eq_true, bne_self_eq_false, Nat.reduceEqDiff, List.length_cons, List.length_nil, List.size_toArray, Nat.zero_add, Nat.zero_mul, Nat.one_mul, Nat.mul_one, Nat.le_refl, List.getElem?_cons_zero, Option.getD_some, and_self, implies_true, Int.reduceToNat, Int.toNat_natCast, decide_true, decide_false, Bool.true_and, Bool.and_true, Bool.false_and, Bool.and_false, Bool.true_or, Bool.or_true, Bool.false_or, Bool.or_false, Bool.not_true, Bool.not_false, Option.isSome_some, not_true_eq_false, not_false_eq_true, *])
  all_goals (exfalso; have t3 := t1.out; split at t3 <;> omega)

end Go.Proofs.Ytofplebnlaaceaa
