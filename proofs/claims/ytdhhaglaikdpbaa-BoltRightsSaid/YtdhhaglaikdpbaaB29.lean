/-
  Walks. Conditions: none.
-/
import Derived.Test.YtdhhaglaikdpbaaB28
set_option linter.unusedVariables false
set_option linter.unusedSimpArgs false
namespace Go.Proofs.Ytdhhaglaikdpbaa
open Go.RowKit Go.SL
set_option maxHeartbeats 1000000
set_option maxRecDepth 1000000
attribute [local go_sem] dcode_seq dcode_plain dops_nil dops_cons GuardK_none GuardK_some GuardB_tt GuardB_ff GuardB_tf GuardB_ft GuardB_none Rest_app Then_normal Then_ret Then_exit Kont_app dop_makeMap dop_makeSlice dop_nilCheck dop_binOp dop_unOp dop_convert dop_makeInterface dop_makeFunc dop_slice dop_fieldAddr dop_field dop_indexAddr dop_index dop_lookup dop_mapUpdate dop_extract dop_call dop_load dop_store dop_move dop_assign dop_pick PickK_true PickK_false dop_box dop_alloc PtrN_app AlZ_app RowN_app RowK_some BS3_app BS2_app BS1_app fillL putAt_nil putAt_cons cyc_zero cyc_succ BD3_some PlK_nil PlC_app PlK_cons BDA_app BD2_struct BD2_array BD1_app set_set dwp_bind' dwp_pure' dwp_load' dwp_store' dwp_newObj BindK_app fin_value fin_skip fin_enter
  arr_getD getD_zero getD_succ cells_agg cells_int cells_bool cells_ptr cells_slice cells_func List.setIfInBounds_toArray List.set_cons_zero List.set_cons_succ
  List.getElem?_toArray List.getElem?_cons_zero List.getElem?_cons_succ List.map_toArray List.map_cons List.map_nil Option.bind_some
  Hp.own_set Hp.cell_def CellK_some OptK_some StoreK_some dwp_true dcode_ret Post_ret Post_normal ResK_one ResK_none ResK_more ResK_tmp ResK_cell AdK_some ResC_app List.nil_append List.cons_append true_and and_true Bool.not_true Bool.not_false dcode_cond CondK_true CondK_false dcode_block dcode_exit InBlock_normal InBlock_ret InBlock_exit dcode_skip dcode_draw dcode_loop CallK_app OwnC_some RoC_some RoC_none RB_some rval_bind' rval_pure' rval_load' rval_true TI_nil TI_cons TR_app GuardD_tt GuardD_ff GuardD_tf GuardD_ft GuardD_none GuardL_none GuardL_some PutK_app EvK_value EvK_skip EvK_enter stp_nilCheck stp_binOp stp_unOp stp_convert stp_makeFunc stp_slice stp_fieldAddr stp_field stp_indexAddr stp_index stp_extract stp_load stp_callv stp_len stp_min stp_max stp_move stp_assign stp_pick BsA_some BsB_some BsC_some stp_rd RdK_value NsA_some BiK_app InvK_app bfin_value stp_append dropV_ptr dropV_slice dropV_nil dropV_own blk_ptr drops_nil drops_cons List.contains_cons List.append_eq stp_box stp_alloc IgnK_app WrA_some AtK_app List.contains_nil EqV_app max2_eq min2_eq quo_eq rem_eq notAgg_int notAgg_bool notAgg_ptr notAgg_slice notAgg_func List.push_toArray toArr Hp.own_drop wrote_nil wrote_cons dropAt_some dropAt_undef Hp.none_own ne_eq Fr.ro_new readI_zero readI_succ readC_some allI_nil allI_cons allO_some Option.map_some List.append_toArray List.append_nil Builtin.len_ goInt RoundK_succ readV_zero readV_succ readVC_some
attribute [local go_sem] un0 ru0 sz0 rs0 ag0 ra0 ze0 rz0 un1 ru1 sz1 rs1 ag1 ra1 ze1 rz1 un2 ru2 sz2 rs2 ag2 ra2 ze2 rz2 un3 ru3 sz3 rs3 ag3 ra3 ze3 rz3 un4 ru4 sz4 rs4 ag4 ra4 ze4 rz4 un5 ru5 sz5 rs5 ag5 ra5 ze5 rz5 un6 ru6 sz6 rs6 ag6 ra6 ze6 rz6 un7 ru7 sz7 rs7 ag7 ra7 ze7 rz7 un8 ru8 sz8 rs8 ag8 ra8 ze8 rz8 un9 ru9 sz9 rs9 ag9 ra9 ze9 rz9 un10 ru10 sz10 rs10 ag10 ra10 ze10 rz10 un11 ru11 sz11 rs11 ag11 ra11 ze11 rz11 un12 ru12 sz12 rs12 ag12 ra12 ze12 rz12 un13 ru13 sz13 rs13 ag13 ra13 ze13 rz13 un14 ru14 sz14 rs14 ag14 ra14 ze14 rz14 un15 ru15 sz15 rs15 ag15 ra15 ze15 rz15 un16 ru16 sz16 rs16 ag16 ra16 ze16 rz16 un17 ru17 sz17 rs17 ag17 ra17 ze17 rz17 un18 ru18 sz18 rs18 ag18 ra18 ze18 rz18 un19 ru19 sz19 rs19 ag19 ra19 ze19 rz19 un20 ru20 sz20 rs20 ag20 ra20 ze20 rz20 un21 ru21 sz21 rs21 ag21 ra21 ze21 rz21 un22 ru22 sz22 rs22 ag22 ra22 ze22 rz22 un23 ru23 sz23 rs23 ag23 ra23 ze23 rz23 un24 ru24 sz24 rs24 ag24 ra24 ze24 rz24 un25 ru25 sz25 rs25 ag25 ra25 ze25 rz25 un26 ru26 sz26 rs26 ag26 ra26 ze26 rz26 un27 ru27 sz27 rs27 ag27 ra27 ze27 rz27 un28 ru28 sz28 rs28 ag28 ra28 ze28 rz28 un29 ru29 sz29 rs29 ag29 ra29 ze29 rz29 un30 ru30 sz30 rs30 ag30 ra30 ze30 rz30 un31 ru31 sz31 rs31 ag31 ra31 ze31 rz31 un32 ru32 sz32 rs32 ag32 ra32 ze32 rz32 un33 ru33 sz33 rs33 ag33 ra33 ze33 rz33 un34 ru34 sz34 rs34 ag34 ra34 ze34 rz34 un35 ru35 sz35 rs35 ag35 ra35 ze35 rz35 un36 ru36 sz36 rs36 ag36 ra36 ze36 rz36 un37 ru37 sz37 rs37 ag37 ra37 ze37 rz37 un38 ru38 sz38 rs38 ag38 ra38 ze38 rz38 un39 ru39 sz39 rs39 ag39 ra39 ze39 rz39 un40 ru40 sz40 rs40 ag40 ra40 ze40 rz40 un41 ru41 sz41 rs41 ag41 ra41 ze41 rz41 un42 ru42 sz42 rs42 ag42 ra42 ze42 rz42 un43 ru43 sz43 rs43 ag43 ra43 ze43 rz43 un44 ru44 ix44 rx44 sz44 rs44 ag44 ra44 ze44 rz44 un45 ru45 sz45 rs45 ag45 ra45 ze45 rz45 un46 ru46 sz46 rs46 ag46 ra46 ze46 rz46 un47 ru47 sz47 rs47 ag47 ra47 ze47 rz47 un48 ru48 sz48 rs48 ag48 ra48 ze48 rz48 un49 ru49 sz49 rs49 ag49 ra49 ze49 rz49 un50 ru50 sz50 rs50 ag50 ra50 ze50 rz50 un51 ru51 sz51 rs51 ag51 ra51 ze51 rz51 un52 ru52 sz52 rs52 ag52 ra52 ze52 rz52 un53 ru53 sz53 rs53 ag53 ra53 ze53 rz53 un54 ru54 ix54 rx54 sz54 rs54 ag54 ra54 ze54 rz54 un55 ru55 ix55 rx55 sz55 rs55 ag55 ra55 ze55 rz55 un56 ru56 sz56 rs56 ag56 ra56 ze56 rz56 un57 ru57 sz57 rs57 ag57 ra57 ze57 rz57 un58 ru58 sz58 rs58 ag58 ra58 ze58 rz58 un59 ru59 sz59 rs59 ag59 ra59 ze59 rz59 un60 ru60 sz60 rs60 ag60 ra60 ze60 rz60 un61 ru61 sz61 rs61 ag61 ra61 ze61 rz61 un62 ru62 sz62 rs62 ag62 ra62 ze62 rz62 un63 ru63 sz63 rs63 ag63 ra63 ze63 rz63 un64 ru64 ix64 rx64 sz64 rs64 ag64 ra64 ze64 rz64 un65 ru65 ix65 rx65 sz65 rs65 ag65 ra65 ze65 rz65 un66 ru66 ix66 rx66 sz66 rs66 ag66 ra66 ze66 rz66 un67 ru67 sz67 rs67 ag67 ra67 ze67 rz67 un68 ru68 ix68 rx68 sz68 rs68 ag68 ra68 ze68 rz68 un69 ru69 ix69 rx69 sz69 rs69 ag69 ra69 ze69 rz69 un70 ru70 sz70 rs70 ag70 ra70 ze70 rz70 un71 ru71 sz71 rs71 ag71 ra71 ze71 rz71 un72 ru72 ix72 rx72 sz72 rs72 ag72 ra72 ze72 rz72 un73 ru73 sz73 rs73 ag73 ra73 ze73 rz73 un74 ru74 sz74 rs74 ag74 ra74 ze74 rz74 un75 ru75 sz75 rs75 ag75 ra75 ze75 rz75 un76 ru76 sz76 rs76 ag76 ra76 ze76 rz76 un77 ru77 sz77 rs77 ag77 ra77 ze77 rz77 un78 ru78 sz78 rs78 ag78 ra78 ze78 rz78 un79 ru79 sz79 rs79 ag79 ra79 ze79 rz79 un80 ru80 sz80 rs80 ag80 ra80 ze80 rz80 un81 ru81 sz81 rs81 ag81 ra81 ze81 rz81 un82 ru82 ix82 rx82 sz82 rs82 ag82 ra82 ze82 rz82 un83 ru83 sz83 rs83 ag83 ra83 ze83 rz83 un84 ru84 ix84 rx84 sz84 rs84 ag84 ra84 ze84 rz84 un85 ru85 sz85 rs85 ag85 ra85 ze85 rz85 un86 ru86 sz86 rs86 ag86 ra86 ze86 rz86 un87 ru87 sz87 rs87 ag87 ra87 ze87 rz87 un88 ru88 ix88 rx88 sz88 rs88 ag88 ra88 ze88 rz88 un89 ru89 sz89 rs89 ag89 ra89 ze89 rz89 un90 ru90 sz90 rs90 ag90 ra90 ze90 rz90 un91 ru91 sz91 rs91 ag91 ra91 ze91 rz91 un92 ru92 ix92 rx92 sz92 rs92 ag92 ra92 ze92 rz92 un93 ru93 sz93 rs93 ag93 ra93 ze93 rz93 un94 ru94 sz94 rs94 ag94 ra94 ze94 rz94 un95 ru95 sz95 rs95 ag95 ra95 ze95 rz95 un96 ru96 sz96 rs96 ag96 ra96 ze96 rz96 un97 ru97 sz97 rs97 ag97 ra97 ze97 rz97 un98 ru98 sz98 rs98 ag98 ra98 ze98 rz98 un99 ru99 sz99 rs99 ag99 ra99 ze99 rz99 un100 ru100 ix100 rx100 sz100 rs100 ag100 ra100 ze100 rz100 un101 ru101 sz101 rs101 ag101 ra101 ze101 rz101 un102 ru102 sz102 rs102 ag102 ra102 ze102 rz102 un103 ru103 sz103 rs103 ag103 ra103 ze103 rz103 un104 ru104 sz104 rs104 ag104 ra104 ze104 rz104 un105 ru105 sz105 rs105 ag105 ra105 ze105 rz105 un106 ru106 sz106 rs106 ag106 ra106 ze106 rz106 un107 ru107 sz107 rs107 ag107 ra107 ze107 rz107 un108 ru108 sz108 rs108 ag108 ra108 ze108 rz108 un109 ru109 sz109 rs109 ag109 ra109 ze109 rz109 un110 ru110 sz110 rs110 ag110 ra110 ze110 rz110 un111 ru111 sz111 rs111 ag111 ra111 ze111 rz111 un112 ru112 sz112 rs112 ag112 ra112 ze112 rz112 un113 ru113 sz113 rs113 ag113 ra113 ze113 rz113 un114 ru114 sz114 rs114 ag114 ra114 ze114 rz114 un115 ru115 sz115 rs115 ag115 ra115 ze115 rz115 un116 ru116 sz116 rs116 ag116 ra116 ze116 rz116 un117 ru117 sz117 rs117 ag117 ra117 ze117 rz117 un118 ru118 sz118 rs118 ag118 ra118 ze118 rz118 un119 ru119 sz119 rs119 ag119 ra119 ze119 rz119 un120 ru120 sz120 rs120 ag120 ra120 ze120 rz120 un121 ru121 sz121 rs121 ag121 ra121 ze121 rz121 un122 ru122 sz122 rs122 ag122 ra122 ze122 rz122 un123 ru123 sz123 rs123 ag123 ra123 ze123 rz123 un124 ru124 sz124 rs124 ag124 ra124 ze124 rz124 un125 ru125 sz125 rs125 ag125 ra125 ze125 rz125 un126 ru126 sz126 rs126 ag126 ra126 ze126 rz126 un127 ru127 sz127 rs127 ag127 ra127 ze127 rz127 un128 ru128 sz128 rs128 ag128 ra128 ze128 rz128 un129 ru129 sz129 rs129 ag129 ra129 ze129 rz129 un130 ru130 sz130 rs130 ag130 ra130 ze130 rz130 un131 ru131 sz131 rs131 ag131 ra131 ze131 rz131 un132 ru132 sz132 rs132 ag132 ra132 ze132 rz132 un133 ru133 sz133 rs133 ag133 ra133 ze133 rz133 un134 ru134 sz134 rs134 ag134 ra134 ze134 rz134 un135 ru135 sz135 rs135 ag135 ra135 ze135 rz135 un136 ru136 sz136 rs136 ag136 ra136 ze136 rz136 un137 ru137 sz137 rs137 ag137 ra137 ze137 rz137 un138 ru138 ix138 rx138 sz138 rs138 ag138 ra138 ze138 rz138 un139 ru139 sz139 rs139 ag139 ra139 ze139 rz139 un140 ru140 sz140 rs140 ag140 ra140 ze140 rz140 un141 ru141 sz141 rs141 ag141 ra141 ze141 rz141 un142 ru142 sz142 rs142 ag142 ra142 ze142 rz142 un143 ru143 sz143 rs143 ag143 ra143 ze143 rz143 un144 ru144 sz144 rs144 ag144 ra144 ze144 rz144 un145 ru145 sz145 rs145 ag145 ra145 ze145 rz145 un146 ru146 sz146 rs146 ag146 ra146 ze146 rz146 un147 ru147 sz147 rs147 ag147 ra147 ze147 rz147 un148 ru148 sz148 rs148 ag148 ra148 ze148 rz148 un149 ru149 sz149 rs149 ag149 ra149 ze149 rz149 en2 re2 en3 re3 en4 re4 en5 re5 en6 re6 en7 re7 en8 re8 en9 re9 en10 re10 en11 re11 en12 re12 en13 re13 en14 re14 en15 re15 en16 re16 en17 re17 en18 re18 en19 re19 en20 re20 en21 re21 en22 re22 en23 re23 en24 re24 en25 re25 en26 re26 en27 re27 en28 re28 en29 re29 en30 re30 en31 re31 en32 re32 en33 re33 en34 re34 en35 re35 en36 re36 en37 re37 en38 re38 en39 re39 en40 re40 en41 re41 en42 re42 en43 re43 en44 re44 en45 re45 en46 re46 en47 re47 en48 re48 en49 re49 en50 re50 en51 re51 en52 re52 en53 re53 en54 re54 en55 re55 en56 re56 en57 re57 en58 re58 en59 re59 en60 re60 en61 re61 en62 re62 en63 re63 en64 re64 en65 re65 en66 re66 en67 re67 en68 re68 en69 re69 en70 re70 en71 re71 en72 re72 en73 re73 en74 re74 en75 re75 en76 re76 en77 re77 en78 re78 en79 re79 en80 re80 en81 re81 en82 re82 en83 re83 en84 re84 en85 re85 en86 re86 en87 re87 en88 re88 en89 re89 dwp_eql4 rval_eql4 dwp_eql23 rval_eql23 eg23 dwp_neq4 rval_neq4 dwp_neq23 rval_neq23 dwp_conv3_129 rval_conv3_129 dwp_conv5_3 rval_conv5_3 dwp_conv67_3 rval_conv67_3 dwp_conv79_3 rval_conv79_3 dwp_conv83_3 rval_conv83_3 dwp_conv129_3 rval_conv129_3
attribute [local go_sem high] dop_append
attribute [local go_sem] Int.cast_ofNat_Int beq_self_eq_true bne_self_eq_false Bool.or_self List.length_cons List.length_nil List.size_toArray Nat.zero_add Nat.zero_mul Nat.one_mul Nat.mul_one Nat.le_refl List.getElem?_cons_zero Option.getD_some and_self implies_true Int.toNat_natCast decide_true decide_false Bool.true_and Bool.and_true Bool.false_and Bool.and_false Bool.true_or Bool.or_true Bool.false_or Bool.or_false Bool.not_true Bool.not_false Option.isSome_some not_true_eq_false not_false_eq_true
attribute [local go_sem_proc] reduceCtorEq Nat.reduceAdd Nat.reduceMul Nat.reduceMod Nat.reduceSub Nat.reduceDiv Nat.reduceLeDiff Nat.reduceLT Int.reduceLE Int.reduceLT Int.reduceEq Int.reduceNeg Int.reduceMul Int.reduceAdd Int.reduceSub Int.reduceTDiv Int.reduceTMod Int.reduceBEq Int.reduceBNe Nat.reduceEqDiff Nat.reduceBEq Int.reduceToNat
attribute [local go_sem_proc ↓] reduceIte
attribute [local go_sem] i64w
attribute [local go_sem] notAgg_map cells_map MapN_app dwp_makeMap Option.map_none
attribute [local go_sem] dwp_eqGuardE dwp_eqGuardN rval_eqGuardE rval_eqGuardN
theorem isIn_ok (ro : Addr → Option Value) (ld th hd ot0 ot1 oh0 oh1 st0 st1 sp0 sp1 yi0 yi1 f0 f1 w0 w1 : Int) : Cr Try.prog 59 #[.agg #[.int .i64 ld, .int .i64 th, .int .i64 hd, .int .i64 ot0, .int .i64 ot1, .int .i64 oh0, .int .i64 oh1, .int .i64 st0, .int .i64 st1, .int .i64 sp0, .int .i64 sp1, .int .i64 yi0, .int .i64 yi1], .agg #[.int .i64 f0, .int .i64 f1], .agg #[.int .i64 w0, .int .i64 w1]] ro (.bool (allI w0 (min w1 yi0) [f0, f1])) := by
  (refine Cr.of Try.func59 rfl rfl (fun F hF => ?_); simp only [Try.ntmps59, Try.results59, List.size_toArray, List.length_cons, List.length_nil, Nat.reduceAdd, Nat.reduceSub, Array.replicate_succ, Array.replicate_zero, List.push_toArray, List.append_toArray, List.nil_append, List.cons_append]; simp -implicitDefEqProofs (maxSteps := 1000000) only [go_sem])
  subst hF
  try simp -implicitDefEqProofs (maxSteps := 1000000) only [go_sem, *]
  repeat' (first | ((first | ((with_reducible refine NewK.intro fun g hg hn => ?_) <;> try simp only [own_none_iff] at hn) | ((with_reducible refine GuardB.split (fun hc => ?_) (fun hc => ?_)) <;> (have hc2 := hc; try simp only [beq_eq_false_iff_ne, beq_iff_eq, ne_eq, bne_iff_ne, bne_eq_false_iff_eq, decide_eq_true_eq, decide_eq_false_iff_not, Bool.not_true, Bool.not_false, Int.not_le, Int.not_lt] at hc2)) | ((with_reducible refine CondK.split (fun hc => ?_) (fun hc => ?_)) <;> (have hc2 := hc; try simp only [beq_eq_false_iff_ne, beq_iff_eq, ne_eq, bne_iff_ne, bne_eq_false_iff_eq, decide_eq_true_eq, decide_eq_false_iff_not, Bool.not_true, Bool.not_false, Int.not_le, Int.not_lt] at hc2)) | ((with_reducible refine PickK.split (fun hc => ?_) (fun hc => ?_)) <;> (have hc2 := hc; try simp only [beq_eq_false_iff_ne, beq_iff_eq, ne_eq, bne_iff_ne, bne_eq_false_iff_eq, decide_eq_true_eq, decide_eq_false_iff_not, Bool.not_true, Bool.not_false, Int.not_le, Int.not_lt] at hc2)) | (with_reducible refine dop_buildSlice ?_) | (with_reducible refine dop_build ?_) | ((with_reducible apply Cr.call (f := 56)); (with_reducible exact kwithin_ok _ _ _ _ _ _ _ _ _ _ _ _ _ _ _ _)) | ((with_reducible apply CallV.of (f := 56) (hi := ni56)); (with_reducible exact kwithin_ok _ _ _ _ _ _ _ _ _ _ _ _ _ _ _ _)) | ((with_reducible apply Cr.call (f := 44)); (with_reducible exact bwithin_ok _ _ _ _ _ _ _ (by simp -implicitDefEqProofs (maxSteps := 1000000) only [go_sem, *]) ⟨by decide⟩)) | ((with_reducible apply CallV.of (f := 44) (hi := ni44)); (with_reducible exact bwithin_ok _ _ _ _ _ _ _ (by simp -implicitDefEqProofs (maxSteps := 1000000) only [go_sem, *]) ⟨by decide⟩)) | ((with_reducible refine GuardD.split (fun hc => ?_) (fun hc => ?_)) <;> (have hc2 := hc; try simp only [beq_eq_false_iff_ne, beq_iff_eq, ne_eq, bne_iff_ne, bne_eq_false_iff_eq, decide_eq_true_eq, decide_eq_false_iff_not, Bool.not_true, Bool.not_false, Int.not_le, Int.not_lt] at hc2)) | (with_reducible refine stp_build ?_) | (with_reducible refine stp_buildSlice ?_) | (with_reducible refine stp_store ?_) | (with_reducible refine stp_ns ?_) | (with_reducible refine NsB.intro (fun h' ho K' hk => by simp -implicitDefEqProofs (maxSteps := 1000000) only [go_sem, *] <;> exact hk) ?_) | (with_reducible refine WrB.intro _ (by simp -implicitDefEqProofs (maxSteps := 1000000) only [go_sem, *]) (fun h' ho K' hk => by simp -implicitDefEqProofs (maxSteps := 1000000) only [go_sem, *]; exact hk) ?_) | ((with_reducible refine DDraw.auto mo ?_ ?_); kernel_rfl)) <;> simp -implicitDefEqProofs (maxSteps := 1000000) only [go_sem, *]) | (with_reducible refine bi_same ?_))
def fineW (ld th hd ot0 ot1 oh0 oh1 st0 st1 sp0 sp1 yi0 yi1 w0 w1 : Int) (w : Way) : Bool := allI w0 (min w1 yi0) [fLo ld th hd ot0 ot1 oh0 oh1 st0 st1 sp0 sp1 yi0 yi1 w.k w.t0 w.t1 w.a0 w.a1 w.s0 w.s1, fHi ld th hd ot0 ot1 oh0 oh1 st0 st1 sp0 sp1 yi0 yi1 w.k w.t0 w.t1 w.a0 w.a1 w.s0 w.s1]
def widW (ld th hd ot0 ot1 oh0 oh1 st0 st1 sp0 sp1 yi0 yi1 : Int) (w : Way) : Int := fHi ld th hd ot0 ot1 oh0 oh1 st0 st1 sp0 sp1 yi0 yi1 w.k w.t0 w.t1 w.a0 w.a1 w.s0 w.s1 - fLo ld th hd ot0 ot1 oh0 oh1 st0 st1 sp0 sp1 yi0 yi1 w.k w.t0 w.t1 w.a0 w.a1 w.s0 w.s1
/-- The ways that are taken: their numbers, with a number of each. -/
def selP (p : Way → Bool) (f : Way → Int) : List Way → Int → List (Int × Int)
  | [], _ => []
  | w :: r, i => if p w then (i, f w) :: selP p f r (i + 1) else selP p f r (i + 1)
theorem selP_snoc (p : Way → Bool) (f : Way → Int) (w : Way) : ∀ (l : List Way) (i : Int), selP p f (l ++ [w]) i = selP p f l i ++ (if p w then [(i + l.length, f w)] else []) := by
  intro l
  induction l with
  | nil => intro i; by_cases h : p w = true <;> simp [selP, h]
  | cons v r ih =>
    intro i
    rw [List.cons_append, selP, selP, ih]
    have e : i + 1 + (r.length : Int) = i + ((v :: r).length : Int) := by simp; omega
    rw [e]
    by_cases h : p v = true <;> simp [h]
theorem selP_key (p : Way → Bool) (f : Way → Int) : ∀ (l : List Way) (i : Int) (q : Int × Int), q ∈ selP p f l i → i ≤ q.1 ∧ q.1 < i + l.length := by
  intro l
  induction l with
  | nil => intro i q hq; cases hq
  | cons v r ih =>
    intro i q hq
    rw [selP] at hq
    split at hq
    · rcases List.mem_cons.1 hq with rfl | hq
      · simp; omega
      · have := ih _ _ hq; simp; omega
    · have := ih _ _ hq; simp; omega
theorem lookL_none {l : List (Int × Int)} {k : Int} (h : ∀ q ∈ l, q.1 ≠ k) : lookL l k = none := by
  induction l with
  | nil => rfl
  | cons p r ih => rw [lookL, if_neg (fun e => h p (by simp) e.symm)]; exact ih fun q hq => h q (by simp [hq])
theorem selP_look (p : Way → Bool) (f : Way → Int) : ∀ (l : List Way) (i : Int) (j : Nat) (q : Int × Int), (selP p f l i)[j]? = some q → lookL (selP p f l i) q.1 = some q.2 := by
  intro l
  induction l with
  | nil => intro i j q h; simp [selP] at h
  | cons v r ih =>
    intro i j q h
    rw [selP] at h ⊢
    split at h
    · rename_i hv
      rw [if_pos hv]
      cases j with
      | zero => simp at h; subst h; simp [lookL]
      | succ j =>
        have h2 : (selP p f r (i + 1))[j]? = some q := by simpa using h
        have := selP_key p f r (i + 1) q (List.mem_of_getElem? h2)
        rw [lookL, if_neg (by simp; omega)]
        exact ih _ _ _ h2
    · rename_i hv
      rw [if_neg hv]
      exact ih _ _ _ h
theorem selP_len (p : Way → Bool) (f : Way → Int) : ∀ (l : List Way) (i : Int), (selP p f l i).length ≤ l.length := by
  intro l
  induction l with
  | nil => intro i; exact Nat.le_refl _
  | cons v r ih => intro i; rw [selP]; have := ih (i + 1); split <;> simp <;> omega
theorem selP_val (p : Way → Bool) (f : Way → Int) : ∀ (l : List Way) (i : Int) (q : Int × Int), q ∈ selP p f l i → ∃ w ∈ l, q.2 = f w := by
  intro l
  induction l with
  | nil => intro i q hq; cases hq
  | cons v r ih =>
    intro i q hq
    rw [selP] at hq
    split at hq
    · rcases List.mem_cons.1 hq with rfl | hq
      · exact ⟨v, by simp, rfl⟩
      · obtain ⟨w, h1, h2⟩ := ih _ _ hq; exact ⟨w, by simp [h1], h2⟩
    · obtain ⟨w, h1, h2⟩ := ih _ _ hq; exact ⟨w, by simp [h1], h2⟩
def keepH (h h' : Hp) : Prop := ∀ g o, h.own g = some o → h'.own g = some o
theorem keepH.cell {F : Fr} {h h' : Hp} (k : keepH h h') {a : Addr} {v : Value} (e : h.cell? F a = some v) : h'.cell? F a = some v := by
  unfold Hp.cell? at e ⊢
  cases hro : F.ro a with
  | some u => rw [hro] at e; exact e
  | none =>
    rw [hro] at e
    cases ho : h.own a.block with
    | none => rw [ho] at e; cases e
    | some o => rw [ho] at e; rw [k _ _ ho]; exact e
theorem keepH.set {h h' : Hp} {g : Nat} {o : Obj} (k : keepH h h') (hg : h.own g = none) : keepH h (h'.set g o) := fun b ob hb => by
  rw [Hp.own_set, if_neg (by rintro rfl; rw [hg] at hb; cases hb)]; exact k b ob hb
theorem keepH.none {h h' : Hp} (k : keepH h h') {g : Nat} (e : h'.own g = none) : h.own g = none := by
  cases ho : h.own g with
  | none => rfl
  | some o => rw [k _ _ ho] at e; cases e
def IBest (ld th hd ot0 ot1 oh0 oh1 st0 st1 sp0 sp1 yi0 yi1 w0 w1 : Int) (ws : List Way) (n b off c : Nat) (g5 g8 g11 gm : Nat) (F : Fr) (h0 : Hp) (k : Nat) (a : Act) (h : Hp) : Prop :=
  ∃ (i : Nat) (v6 : Value), Hold (i + k = n) ∧ Hold (keepH h0 h) ∧ h.own g5 = some (.cells #[.int .i64 w0, .int .i64 w1] 23) ∧ h.own g8 = some (.cells #[.int .i64 ld, .int .i64 th, .int .i64 hd, .int .i64 ot0, .int .i64 ot1, .int .i64 oh0, .int .i64 oh1, .int .i64 st0, .int .i64 st1, .int .i64 sp0, .int .i64 sp1, .int .i64 yi0, .int .i64 yi1] 102) ∧ h.own g11 = some (.cells #[.map (some gm)] 114) ∧ h.own gm = some (.map (mkEs (selP (fineW ld th hd ot0 ot1 oh0 oh1 st0 st1 sp0 sp1 yi0 yi1 w0 w1) (widW ld th hd ot0 ot1 oh0 oh1 st0 st1 sp0 sp1 yi0 yi1) (ws.take i) 0) 0).toArray (selP (fineW ld th hd ot0 ot1 oh0 oh1 st0 st1 sp0 sp1 yi0 yi1 w0 w1) (widW ld th hd ot0 ot1 oh0 oh1 st0 st1 sp0 sp1 yi0 yi1) (ws.take i) 0).length) ∧ Own F h 3 1 v6 (selP (fineW ld th hd ot0 ot1 oh0 oh1 st0 st1 sp0 sp1 yi0 yi1 w0 w1) (widW ld th hd ot0 ot1 oh0 oh1 st0 st1 sp0 sp1 yi0 yi1) (ws.take i) 0).length (ints ((selP (fineW ld th hd ot0 ot1 oh0 oh1 st0 st1 sp0 sp1 yi0 yi1 w0 w1) (widW ld th hd ot0 ot1 oh0 oh1 st0 st1 sp0 sp1 yi0 yi1) (ws.take i) 0).map (·.1))) ∧ Hold (∀ x, x = g5 ∨ x = g8 ∨ x = g11 ∨ x = gm → blk v6 ≠ some x ∧ h0.own x = none) ∧ Hold (∀ x, blk v6 = some x → h0.own x = none) ∧ a = (fun x : Nat → Value => (⟨#[x 0, .slice (some ⟨b, off, none⟩) n c, x 2, x 3, x 4, .pointer (some ⟨g5, 0, none⟩), v6, .int .i64 0, .pointer (some ⟨g8, 0, none⟩), x 9, x 10, .pointer (some ⟨g11, 0, none⟩), x 12, x 13, x 14, x 15, x 16, x 17, x 18, x 19, x 20, x 21, x 22, x 23, x 24, x 25, x 26, x 27, x 28, x 29, x 30, x 31, x 32, x 33, x 34, x 35, x 36, x 37, x 38, x 39, x 40, .slice (some ⟨b, off, none⟩) n c, .int .i64 n, .int .i64 i, x 44, x 45, x 46, x 47, x 48, x 49, x 50, x 51, x 52, x 53, x 54, x 55, x 56, x 57, x 58, x 59, x 60, x 61, x 62, x 63, x 64, x 65, x 66, x 67, x 68, x 69, x 70, x 71, x 72, x 73], []⟩ : Act)) (fun i => a.tmps.getD i undef)
set_option maxHeartbeats 8000000 in
theorem bestD (F : Fr) (h : Hp) (K : Value → Hp → Prop) (ld th hd ot0 ot1 oh0 oh1 st0 st1 sp0 sp1 yi0 yi1 w0 w1 : Int) (ws : List Way) (n b off c : Nat) (hn19 : Hold (n ≤ 19)) (hr : Hold (readV (h.cell? F) b off (n * 7) = some (ws.flatMap Way.cs))) (hv : BoltOk ld th hd ot0 ot1 oh0 oh1 st0 st1 sp0 sp1 yi0 yi1) (hw : Hold (∀ w ∈ ws, w.ok = true)) (hwn : spB 0 100000000 w0 w1 = true)
    (hs : Hold (∀ (i : Nat) x y, ((selP (fineW ld th hd ot0 ot1 oh0 oh1 st0 st1 sp0 sp1 yi0 yi1 w0 w1) (widW ld th hd ot0 ot1 oh0 oh1 st0 st1 sp0 sp1 yi0 yi1) ws 0).map (·.2))[i]? = some x → ((selP (fineW ld th hd ot0 ot1 oh0 oh1 st0 st1 sp0 sp1 yi0 yi1 w0 w1) (widW ld th hd ot0 ot1 oh0 oh1 st0 st1 sp0 sp1 yi0 yi1) ws 0).map (·.2))[i + 1]? = some y → x ≤ y))
    (k0 : selP (fineW ld th hd ot0 ot1 oh0 oh1 st0 st1 sp0 sp1 yi0 yi1 w0 w1) (widW ld th hd ot0 ot1 oh0 oh1 st0 st1 sp0 sp1 yi0 yi1) ws 0 = [] → ∀ h', keepH h h' → K (.tuple #[.slice none 0 0, .int .i64 7]) h')
    (k1 : selP (fineW ld th hd ot0 ot1 oh0 oh1 st0 st1 sp0 sp1 yi0 yi1 w0 w1) (widW ld th hd ot0 ot1 oh0 oh1 st0 st1 sp0 sp1 yi0 yi1) ws 0 ≠ [] → ∀ v' h', keepH h h' → (∀ x, blk v' = some x → h.own x = none) → Own F h' 3 1 v' (selP (fineW ld th hd ot0 ot1 oh0 oh1 st0 st1 sp0 sp1 yi0 yi1 w0 w1) (widW ld th hd ot0 ot1 oh0 oh1 st0 st1 sp0 sp1 yi0 yi1) ws 0).length (ints ((selP (fineW ld th hd ot0 ot1 oh0 oh1 st0 st1 sp0 sp1 yi0 yi1 w0 w1) (widW ld th hd ot0 ot1 oh0 oh1 st0 st1 sp0 sp1 yi0 yi1) ws 0).map (·.1))) → K (.tuple #[v', .int .i64 0]) h') :
    DCall Try.prog F 29 #[.agg #[.int .i64 ld, .int .i64 th, .int .i64 hd, .int .i64 ot0, .int .i64 ot1, .int .i64 oh0, .int .i64 oh1, .int .i64 st0, .int .i64 st1, .int .i64 sp0, .int .i64 sp1, .int .i64 yi0, .int .i64 yi1], .slice (some ⟨b, off, none⟩) n c, .agg #[.int .i64 w0, .int .i64 w1]] h K := by
  have hz : checkV ld th hd ot0 ot1 oh0 oh1 st0 st1 sp0 sp1 yi0 yi1 = 0 := by unfold checkV; rw [if_pos (boltB_iff.2 hv)]
  have ho : openV ld th hd ot0 ot1 oh0 oh1 st0 st1 sp0 sp1 yi0 yi1 (ws.any fun w => !w.ok) = 0 := by
    unfold openV; rw [if_pos (boltB_iff.2 hv), if_neg]
    simp only [List.any_eq_true, not_exists]
    rintro w ⟨h1, h2⟩
    rw [hw.out w h1] at h2; cases h2
  have hnn : Hold (n < 2 ^ 63) := ⟨by have := hn19.out; omega⟩
  have c20 : ((n : Int) > 20) = False := by have := hn19.out; simp; omega
  replace hv := Hold.mk hv
  have k0' := Hold.mk k0
  have k1' := Hold.mk k1
  clear k0 k1
  (refine DCall.inl Try.func29 rfl rfl ?_; simp only [Try.ntmps29, Try.results29, List.size_toArray, List.length_cons, List.length_nil, Nat.reduceAdd, Nat.reduceSub, Array.replicate_succ, Array.replicate_zero, List.push_toArray, List.append_toArray, List.nil_append, List.cons_append]; simp -implicitDefEqProofs (maxSteps := 1000000) only [go_sem])
  repeat' (first | ((first | ((with_reducible refine NewK.intro fun g hg hn => ?_) <;> try simp only [own_none_iff] at hn) | ((with_reducible refine GuardB.split (fun hc => ?_) (fun hc => ?_)) <;> (have hc2 := hc; try simp only [beq_eq_false_iff_ne, beq_iff_eq, ne_eq, bne_iff_ne, bne_eq_false_iff_eq, decide_eq_true_eq, decide_eq_false_iff_not, Bool.not_true, Bool.not_false, Int.not_le, Int.not_lt] at hc2)) | ((with_reducible refine CondK.split (fun hc => ?_) (fun hc => ?_)) <;> (have hc2 := hc; try simp only [beq_eq_false_iff_ne, beq_iff_eq, ne_eq, bne_iff_ne, bne_eq_false_iff_eq, decide_eq_true_eq, decide_eq_false_iff_not, Bool.not_true, Bool.not_false, Int.not_le, Int.not_lt] at hc2)) | ((with_reducible refine PickK.split (fun hc => ?_) (fun hc => ?_)) <;> (have hc2 := hc; try simp only [beq_eq_false_iff_ne, beq_iff_eq, ne_eq, bne_iff_ne, bne_eq_false_iff_eq, decide_eq_true_eq, decide_eq_false_iff_not, Bool.not_true, Bool.not_false, Int.not_le, Int.not_lt] at hc2)) | (with_reducible refine dop_buildSlice ?_) | (with_reducible refine dop_build ?_) | ((with_reducible apply Cr.call (f := 46)); (with_reducible exact open0B _ _ _ _ _ _ _ _ _ _ _ _ _ _)) | ((with_reducible apply CallV.of (f := 46) (hi := ni46)); (with_reducible exact open0B _ _ _ _ _ _ _ _ _ _ _ _ _ _)) | ((with_reducible apply Cr.call (f := 46)); (with_reducible exact openB _ _ _ _ _ _ _ _ _ _ _ _ _ _ _ _ _ _ ws (readV_mono (fun a u e => keepH.cell (fun g o hg => by simp only [Hp.own_set]; (repeat rw [if_neg (by rintro rfl; simp_all)]); exact hg) e) hr.out) hnn)) | ((with_reducible apply CallV.of (f := 46) (hi := ni46)); (with_reducible exact openB _ _ _ _ _ _ _ _ _ _ _ _ _ _ _ _ _ _ ws (readV_mono (fun a u e => keepH.cell (fun g o hg => by simp only [Hp.own_set]; (repeat rw [if_neg (by rintro rfl; simp_all)]); exact hg) e) hr.out) hnn)) | ((with_reducible apply Cr.call (f := 48)); (with_reducible exact isForceB _ _ _)) | ((with_reducible apply CallV.of (f := 48) (hi := ni48)); (with_reducible exact isForceB _ _ _)) | ((with_reducible refine GuardD.split (fun hc => ?_) (fun hc => ?_)) <;> (have hc2 := hc; try simp only [beq_eq_false_iff_ne, beq_iff_eq, ne_eq, bne_iff_ne, bne_eq_false_iff_eq, decide_eq_true_eq, decide_eq_false_iff_not, Bool.not_true, Bool.not_false, Int.not_le, Int.not_lt] at hc2)) | (with_reducible refine stp_build ?_) | (with_reducible refine stp_buildSlice ?_) | (with_reducible refine stp_store ?_) | (with_reducible refine stp_ns ?_) | (with_reducible refine NsB.intro (fun h' ho K' hk => by simp -implicitDefEqProofs (maxSteps := 1000000) only [go_sem, *] <;> exact hk) ?_) | (with_reducible refine WrB.intro _ (by simp -implicitDefEqProofs (maxSteps := 1000000) only [go_sem, *]) (fun h' ho K' hk => by simp -implicitDefEqProofs (maxSteps := 1000000) only [go_sem, *]; exact hk) ?_) | ((with_reducible refine DDraw.auto mo ?_ ?_); kernel_rfl)) <;> simp -implicitDefEqProofs (maxSteps := 1000000) only [go_sem, *]) | (with_reducible refine bi_same ?_))
  refine Cr.call (openB _ _ _ _ _ _ _ _ _ _ _ _ _ _ _ _ _ _ ws (readV_mono (fun a u e => keepH.cell (fun g o hg => by simp only [Hp.own_set]; (repeat rw [if_neg (by rintro rfl; simp_all)]); exact hg) e) hr.out) hnn) ?_
  simp -implicitDefEqProofs (maxSteps := 1000000) only [go_sem, *]
  repeat' (first | ((first | ((with_reducible refine NewK.intro fun g hg hn => ?_) <;> try simp only [own_none_iff] at hn) | ((with_reducible refine GuardB.split (fun hc => ?_) (fun hc => ?_)) <;> (have hc2 := hc; try simp only [beq_eq_false_iff_ne, beq_iff_eq, ne_eq, bne_iff_ne, bne_eq_false_iff_eq, decide_eq_true_eq, decide_eq_false_iff_not, Bool.not_true, Bool.not_false, Int.not_le, Int.not_lt] at hc2)) | ((with_reducible refine CondK.split (fun hc => ?_) (fun hc => ?_)) <;> (have hc2 := hc; try simp only [beq_eq_false_iff_ne, beq_iff_eq, ne_eq, bne_iff_ne, bne_eq_false_iff_eq, decide_eq_true_eq, decide_eq_false_iff_not, Bool.not_true, Bool.not_false, Int.not_le, Int.not_lt] at hc2)) | ((with_reducible refine PickK.split (fun hc => ?_) (fun hc => ?_)) <;> (have hc2 := hc; try simp only [beq_eq_false_iff_ne, beq_iff_eq, ne_eq, bne_iff_ne, bne_eq_false_iff_eq, decide_eq_true_eq, decide_eq_false_iff_not, Bool.not_true, Bool.not_false, Int.not_le, Int.not_lt] at hc2)) | (with_reducible refine dop_buildSlice ?_) | (with_reducible refine dop_build ?_) | ((with_reducible apply Cr.call (f := 48)); (with_reducible exact isForceB _ _ _)) | ((with_reducible apply CallV.of (f := 48) (hi := ni48)); (with_reducible exact isForceB _ _ _)) | ((with_reducible refine GuardD.split (fun hc => ?_) (fun hc => ?_)) <;> (have hc2 := hc; try simp only [beq_eq_false_iff_ne, beq_iff_eq, ne_eq, bne_iff_ne, bne_eq_false_iff_eq, decide_eq_true_eq, decide_eq_false_iff_not, Bool.not_true, Bool.not_false, Int.not_le, Int.not_lt] at hc2)) | (with_reducible refine stp_build ?_) | (with_reducible refine stp_buildSlice ?_) | (with_reducible refine stp_store ?_) | (with_reducible refine stp_ns ?_) | (with_reducible refine NsB.intro (fun h' ho K' hk => by simp -implicitDefEqProofs (maxSteps := 1000000) only [go_sem, *] <;> exact hk) ?_) | (with_reducible refine WrB.intro _ (by simp -implicitDefEqProofs (maxSteps := 1000000) only [go_sem, *]) (fun h' ho K' hk => by simp -implicitDefEqProofs (maxSteps := 1000000) only [go_sem, *]; exact hk) ?_) | ((with_reducible refine DDraw.auto mo ?_ ?_); kernel_rfl)) <;> simp -implicitDefEqProofs (maxSteps := 1000000) only [go_sem, *]) | (with_reducible refine bi_same ?_))
  rename_i g3 hg3 hn3 g5 hg5 hn5 g8 hg8 hn8 g9 hg9 hn9 gm hgm hnm
  generalize hgg : g = g11 at *
  clear hgg
  refine DLoop.ind (IBest ld th hd ot0 ot1 oh0 oh1 st0 st1 sp0 sp1 yi0 yi1 w0 w1 ws n b off c g5 g8 g11 gm F h) n ⟨0, .slice none 0 0, ⟨by omega⟩, ⟨(fun g o hg => by simp only [Hp.own_set]; (repeat rw [if_neg (by rintro rfl; simp_all)]); exact hg)⟩, (by simp -implicitDefEqProofs (maxSteps := 1000000) only [go_sem, *]), (by simp -implicitDefEqProofs (maxSteps := 1000000) only [go_sem, *]), (by simp -implicitDefEqProofs (maxSteps := 1000000) only [go_sem, *]), (by simp -implicitDefEqProofs (maxSteps := 1000000) only [go_sem, *]; rfl), Own.nil, ⟨by rintro x (rfl | rfl | rfl | rfl) <;> simp_all [blk]⟩, ⟨by simp [blk]⟩, (by kernel_rfl)⟩ ?_
  generalize hh : h = h0 at *
  clear hh
  (rintro k a h ⟨i, v6, fa0, fa1, fa2, fa3, fa4, fa5, fa6, fa7, fa8, ha⟩; generalize (fun i => Array.getD a.tmps i undef) = x at ha; dsimp only at ha; subst ha)
  have p6 := fa6.nblk
  have w5 := own_cells fa2
  have w8 := own_cells fa3
  have w11 := own_cells fa4
  have wm := own_cells fa5
  have q5 := (fa7.out g5 (by simp)).1
  have q8 := (fa7.out g8 (by simp)).1
  have q11 := (fa7.out g11 (by simp)).1
  have qm := (fa7.out gm (by simp)).1
  have hlen : ws.length = n := by
    have h1 := readV_len hr.out
    rw [flat_len Way.cs_len] at h1
    omega
  simp -implicitDefEqProofs (maxSteps := 1000000) only [go_sem, *]
  refine CondK.split (fun hc => ?_) (fun hc => ?_)
  · have hlt : i < n := by simpa using hc
    have i0 : (0 : Int) ≤ (i : Int) := by omega
    have i1 : (i : Int) < (n : Int) := by omega
    have hxi : ws[i]? = some ws[i] := List.getElem?_eq_getElem (by omega)
    have hro := readV_at Way.cs_len hr.out hxi
    have hok := hw.out ws[i] (List.getElem_mem _)
    have htk : ws.take (i + 1) = ws.take i ++ [ws[i]] := by rw [List.take_add_one, hxi]; rfl
    have htl : (ws.take i).length = i := by rw [List.length_take]; omega
    have iw : IntKind.i64.wrap ((i : Int) + 1) = ((i + 1 : Nat) : Int) := by
      have := hn19.out
      rw [IntWalk.i64_in _ (by omega)]; push_cast; rfl
    generalize hwv : ws[i] = w at *
    have e0 := keepH.cell fa1.out (hro 0 _ rfl)
    have e1 := keepH.cell fa1.out (hro 1 _ rfl)
    have e2 := keepH.cell fa1.out (hro 2 _ rfl)
    have e3 := keepH.cell fa1.out (hro 3 _ rfl)
    have e4 := keepH.cell fa1.out (hro 4 _ rfl)
    have e5 := keepH.cell fa1.out (hro 5 _ rfl)
    have e6 := keepH.cell fa1.out (hro 6 _ rfl)
    rw [Hp.cell_def] at e0 e1 e2 e3 e4 e5 e6
    have hok' : wayB w.k w.t0 w.t1 w.a0 w.a1 w.s0 w.s1 = true := hok
    have fbd := force_bd hv.out hok'
    have wrb : IntKind.i64.wrap (fHi ld th hd ot0 ot1 oh0 oh1 st0 st1 sp0 sp1 yi0 yi1 w.k w.t0 w.t1 w.a0 w.a1 w.s0 w.s1 - fLo ld th hd ot0 ot1 oh0 oh1 st0 st1 sp0 sp1 yi0 yi1 w.k w.t0 w.t1 w.a0 w.a1 w.s0 w.s1) = widW ld th hd ot0 ot1 oh0 oh1 st0 st1 sp0 sp1 yi0 yi1 w := IntWalk.i64_in _ (by omega)
    have fbh := Hold.mk fbd
    clear fbd hro
    simp -implicitDefEqProofs (maxSteps := 1000000) only [go_sem, hc, i0, i1, e0, e1, e2, e3, e4, e5, e6, add_none]
    repeat' (first | ((first | ((with_reducible refine NewK.intro fun g hg hn => ?_) <;> try simp only [own_none_iff] at hn) | ((with_reducible refine GuardB.split (fun hc => ?_) (fun hc => ?_)) <;> (have hc2 := hc; try simp only [beq_eq_false_iff_ne, beq_iff_eq, ne_eq, bne_iff_ne, bne_eq_false_iff_eq, decide_eq_true_eq, decide_eq_false_iff_not, Bool.not_true, Bool.not_false, Int.not_le, Int.not_lt] at hc2)) | ((with_reducible refine CondK.split (fun hc => ?_) (fun hc => ?_)) <;> (have hc2 := hc; try simp only [beq_eq_false_iff_ne, beq_iff_eq, ne_eq, bne_iff_ne, bne_eq_false_iff_eq, decide_eq_true_eq, decide_eq_false_iff_not, Bool.not_true, Bool.not_false, Int.not_le, Int.not_lt] at hc2)) | ((with_reducible refine PickK.split (fun hc => ?_) (fun hc => ?_)) <;> (have hc2 := hc; try simp only [beq_eq_false_iff_ne, beq_iff_eq, ne_eq, bne_iff_ne, bne_eq_false_iff_eq, decide_eq_true_eq, decide_eq_false_iff_not, Bool.not_true, Bool.not_false, Int.not_le, Int.not_lt] at hc2)) | (with_reducible refine dop_buildSlice ?_) | (with_reducible refine dop_build ?_) | ((with_reducible apply Cr.call (f := 47)); (with_reducible exact forceG _ _ _ _ _ _ _ _ _ _ _ _ _ _ _ _ _ _ _ _ _ hv.out hok')) | ((with_reducible apply CallV.of (f := 47) (hi := ni47)); (with_reducible exact forceG _ _ _ _ _ _ _ _ _ _ _ _ _ _ _ _ _ _ _ _ _ hv.out hok')) | ((with_reducible apply Cr.call (f := 59)); (with_reducible exact isIn_ok _ _ _ _ _ _ _ _ _ _ _ _ _ _ _ _ _ _)) | ((with_reducible apply CallV.of (f := 59) (hi := ni59)); (with_reducible exact isIn_ok _ _ _ _ _ _ _ _ _ _ _ _ _ _ _ _ _ _)) | ((with_reducible refine GuardD.split (fun hc => ?_) (fun hc => ?_)) <;> (have hc2 := hc; try simp only [beq_eq_false_iff_ne, beq_iff_eq, ne_eq, bne_iff_ne, bne_eq_false_iff_eq, decide_eq_true_eq, decide_eq_false_iff_not, Bool.not_true, Bool.not_false, Int.not_le, Int.not_lt] at hc2)) | (with_reducible refine stp_build ?_) | (with_reducible refine stp_buildSlice ?_) | (with_reducible refine stp_store ?_) | (with_reducible refine stp_ns ?_) | (with_reducible refine NsB.intro (fun h' ho K' hk => by simp -implicitDefEqProofs (maxSteps := 1000000) only [go_sem, *] <;> exact hk) ?_) | (with_reducible refine WrB.intro _ (by simp -implicitDefEqProofs (maxSteps := 1000000) only [go_sem, *]) (fun h' ho K' hk => by simp -implicitDefEqProofs (maxSteps := 1000000) only [go_sem, *]; exact hk) ?_) | ((with_reducible refine DDraw.auto mo ?_ ?_); kernel_rfl)) <;> simp -implicitDefEqProofs (maxSteps := 1000000) only [go_sem, *]) | (with_reducible refine bi_same ?_))
    · rename_i g13 hg13 hn13 g14 hg14 hn14
      have hf : fineW ld th hd ot0 ot1 oh0 oh1 st0 st1 sp0 sp1 yi0 yi1 w0 w1 w = true := by simp only [fineW, allI_cons, allI_nil, Bool.and_true]; exact hc
      have hsel : selP (fineW ld th hd ot0 ot1 oh0 oh1 st0 st1 sp0 sp1 yi0 yi1 w0 w1) (widW ld th hd ot0 ot1 oh0 oh1 st0 st1 sp0 sp1 yi0 yi1) (ws.take (i + 1)) 0 = selP (fineW ld th hd ot0 ot1 oh0 oh1 st0 st1 sp0 sp1 yi0 yi1 w0 w1) (widW ld th hd ot0 ot1 oh0 oh1 st0 st1 sp0 sp1 yi0 yi1) (ws.take i) 0 ++ [((i : Int), widW ld th hd ot0 ot1 oh0 oh1 st0 st1 sp0 sp1 yi0 yi1 w)] := by
        rw [htk, selP_snoc, if_pos hf, htl, Int.zero_add]
      have hnl : lookL (selP (fineW ld th hd ot0 ot1 oh0 oh1 st0 st1 sp0 sp1 yi0 yi1 w0 w1) (widW ld th hd ot0 ot1 oh0 oh1 st0 st1 sp0 sp1 yi0 yi1) (ws.take i) 0) (i : Int) = none := lookL_none fun q hq => by
        have := selP_key _ _ _ _ _ hq
        rw [htl] at this; omega
      have hll : (selP (fineW ld th hd ot0 ot1 oh0 oh1 st0 st1 sp0 sp1 yi0 yi1 w0 w1) (widW ld th hd ot0 ot1 oh0 oh1 st0 st1 sp0 sp1 yi0 yi1) (ws.take i) 0).length ≤ 19 := by
        have h1 := selP_len (fineW ld th hd ot0 ot1 oh0 oh1 st0 st1 sp0 sp1 yi0 yi1 w0 w1) (widW ld th hd ot0 ot1 oh0 oh1 st0 st1 sp0 sp1 yi0 yi1) (ws.take i) 0
        have h2 := hn19.out
        omega
      refine AppD.own Try.underlying55 inf_int (by decide) (by decide) (((fa6.other (p6 g13 hn13)).other (p6 g14 hn14.2.2)).other (p6 g hn.2.2.2.2)) (ys := [.int .i64 i]) (by simp -implicitDefEqProofs (maxSteps := 1000000) only [go_sem, *]) one_agg (by omega) fun u6 gA obA hA bA r6 => ?_
      have a5 := ne2 (fresh_ne (x := g5) hA q5 (by simp -implicitDefEqProofs (maxSteps := 1000000) only [go_sem, *]; rfl))
      have a8 := ne2 (fresh_ne (x := g8) hA q8 (by simp -implicitDefEqProofs (maxSteps := 1000000) only [go_sem, *]; rfl))
      have a11 := ne2 (fresh_ne (x := g11) hA q11 (by simp -implicitDefEqProofs (maxSteps := 1000000) only [go_sem, *]; rfl))
      have a14 := ne2 (fresh_ne (x := g14) hA (p6 g14 hn14.2.2) (by simp -implicitDefEqProofs (maxSteps := 1000000) only [go_sem, *]; rfl))
      have am := ne2 (fresh_ne (x := gm) hA qm (by simp -implicitDefEqProofs (maxSteps := 1000000) only [go_sem, *]; rfl))
      simp -implicitDefEqProofs (maxSteps := 1000000) only [go_sem, *]
      rw [dwp_updateI (l := selP (fineW ld th hd ot0 ot1 oh0 oh1 st0 st1 sp0 sp1 yi0 yi1 w0 w1) (widW ld th hd ot0 ot1 oh0 oh1 st0 st1 sp0 sp1 yi0 yi1) (ws.take i) 0) (b := 0) (c := (selP (fineW ld th hd ot0 ot1 oh0 oh1 st0 st1 sp0 sp1 yi0 yi1 w0 w1) (widW ld th hd ot0 ot1 oh0 oh1 st0 st1 sp0 sp1 yi0 yi1) (ws.take i) 0).length) Try.underlying114 Try.underlying3 (by simp -implicitDefEqProofs (maxSteps := 1000000) only [go_sem, *]) hnl]
      simp -implicitDefEqProofs (maxSteps := 1000000) only [go_sem, *]
      have p0 := fa0.out
      have hobj : Obj.map (mkEs (selP (fineW ld th hd ot0 ot1 oh0 oh1 st0 st1 sp0 sp1 yi0 yi1 w0 w1) (widW ld th hd ot0 ot1 oh0 oh1 st0 st1 sp0 sp1 yi0 yi1) (ws.take i) 0) 0 ++ ([⟨.int .i64 (i : Int), .int .i64 (widW ld th hd ot0 ot1 oh0 oh1 st0 st1 sp0 sp1 yi0 yi1 w), (selP (fineW ld th hd ot0 ot1 oh0 oh1 st0 st1 sp0 sp1 yi0 yi1 w0 w1) (widW ld th hd ot0 ot1 oh0 oh1 st0 st1 sp0 sp1 yi0 yi1) (ws.take i) 0).length⟩] : List MapEntry)).toArray ((selP (fineW ld th hd ot0 ot1 oh0 oh1 st0 st1 sp0 sp1 yi0 yi1 w0 w1) (widW ld th hd ot0 ot1 oh0 oh1 st0 st1 sp0 sp1 yi0 yi1) (ws.take i) 0).length + 1) = Obj.map (mkEs (selP (fineW ld th hd ot0 ot1 oh0 oh1 st0 st1 sp0 sp1 yi0 yi1 w0 w1) (widW ld th hd ot0 ot1 oh0 oh1 st0 st1 sp0 sp1 yi0 yi1) (ws.take (i + 1)) 0) 0).toArray (selP (fineW ld th hd ot0 ot1 oh0 oh1 st0 st1 sp0 sp1 yi0 yi1 w0 w1) (widW ld th hd ot0 ot1 oh0 oh1 st0 st1 sp0 sp1 yi0 yi1) (ws.take (i + 1)) 0).length := by
        rw [hsel, mkEs_snoc, List.length_append, Nat.zero_add]; rfl
      have hkk : blk u6 ≠ some gm := fun e => am.1 (by rw [bA] at e; exact Option.some.inj e)
      have hfr : h0.own gA = none := by
        rcases hA with e | ⟨e, _⟩
        · exact fa8.out gA e
        · simp only [own_none_iff] at e
          exact fa1.out.none e.2.2.2.2.2.2
      refine LoopK.intro (k - 1) (by omega) ⟨i + 1, u6, ⟨by omega⟩, ⟨?_⟩, (by simp -implicitDefEqProofs (maxSteps := 1000000) only [go_sem, *]), (by simp -implicitDefEqProofs (maxSteps := 1000000) only [go_sem, *]), (by simp -implicitDefEqProofs (maxSteps := 1000000) only [go_sem, *]), (by rw [Hp.own_set, if_pos rfl, hobj]), ?_, ⟨?_⟩, ⟨?_⟩, (by kernel_rfl)⟩
      · exact ((((fa1.out.set (fa1.out.none hn13)).set (fa1.out.none hn14.2.2)).set (fa1.out.none hn.2.2.2.2)).set hfr).set (fa7.out gm (by simp)).2
      · rw [hsel, List.length_append, List.map_append]
        show Own F _ _ 1 _ _ (ints (_ ++ [(i : Int)]))
        rw [ints_snoc]
        exact r6.other hkk
      · rintro x hx
        refine ⟨?_, (fa7.out x hx).2⟩
        rw [bA]
        rintro e
        cases e
        rcases hx with rfl | rfl | rfl | rfl <;> simp_all
      · intro x hx
        rw [bA] at hx
        cases hx
        exact hfr
    · rename_i g13 hg13 hn13
      have hf : fineW ld th hd ot0 ot1 oh0 oh1 st0 st1 sp0 sp1 yi0 yi1 w0 w1 w = false := by simp only [fineW, allI_cons, allI_nil, Bool.and_true]; exact hc
      have hsel : selP (fineW ld th hd ot0 ot1 oh0 oh1 st0 st1 sp0 sp1 yi0 yi1 w0 w1) (widW ld th hd ot0 ot1 oh0 oh1 st0 st1 sp0 sp1 yi0 yi1) (ws.take (i + 1)) 0 = selP (fineW ld th hd ot0 ot1 oh0 oh1 st0 st1 sp0 sp1 yi0 yi1 w0 w1) (widW ld th hd ot0 ot1 oh0 oh1 st0 st1 sp0 sp1 yi0 yi1) (ws.take i) 0 := by
        rw [htk, selP_snoc, if_neg (by rw [hf]; decide), List.append_nil]
      have p0 := fa0.out
      refine LoopK.intro (k - 1) (by omega) ⟨i + 1, v6, ⟨by omega⟩, ⟨(fa1.out.set (fa1.out.none hn13)).set (fa1.out.none hn.2.2)⟩, (by simp -implicitDefEqProofs (maxSteps := 1000000) only [go_sem, *]), (by simp -implicitDefEqProofs (maxSteps := 1000000) only [go_sem, *]), (by simp -implicitDefEqProofs (maxSteps := 1000000) only [go_sem, *]), (by rw [hsel]; simp -implicitDefEqProofs (maxSteps := 1000000) only [go_sem, *]), (by rw [hsel]; exact (fa6.other (p6 g13 hn13)).other (p6 g hn.2.2)), fa7, fa8, (by kernel_rfl)⟩
  · have hge : n ≤ i := by simpa using hc
    have p0 := fa0.out
    have hti : ws.take i = ws := List.take_of_length_le (by omega)
    rw [hti] at fa5 fa6
    have hg11 : F.w0.heap.size ≤ g11 := hg
    have hsl := selP_look (fineW ld th hd ot0 ot1 oh0 oh1 st0 st1 sp0 sp1 yi0 yi1 w0 w1) (widW ld th hd ot0 ot1 oh0 oh1 st0 st1 sp0 sp1 yi0 yi1) ws 0
    have hlen3 := selP_len (fineW ld th hd ot0 ot1 oh0 oh1 st0 st1 sp0 sp1 yi0 yi1 w0 w1) (widW ld th hd ot0 ot1 oh0 oh1 st0 st1 sp0 sp1 yi0 yi1) ws 0
    have hP19 : (selP (fineW ld th hd ot0 ot1 oh0 oh1 st0 st1 sp0 sp1 yi0 yi1 w0 w1) (widW ld th hd ot0 ot1 oh0 oh1 st0 st1 sp0 sp1 yi0 yi1) ws 0).length ≤ 19 := by have := hn19.out; omega
    have hbd : ∀ w ∈ (selP (fineW ld th hd ot0 ot1 oh0 oh1 st0 st1 sp0 sp1 yi0 yi1 w0 w1) (widW ld th hd ot0 ot1 oh0 oh1 st0 st1 sp0 sp1 yi0 yi1) ws 0).map (·.2), -100000000000000 ≤ w ∧ w ≤ 100000000000000 := by
      intro w hwm
      obtain ⟨q, hq, rfl⟩ := List.mem_map.1 hwm
      obtain ⟨y, hy, e⟩ := selP_val _ _ _ _ _ hq
      have := force_bd (k := y.k) (t0 := y.t0) (t1 := y.t1) (a0 := y.a0) (a1 := y.a1) (s0 := y.s0) (s1 := y.s1) hv.out (hw.out y hy)
      rw [e]
      unfold widW
      omega
    have hh := hs.out
    have k0 := k0'.out
    have k1 := k1'.out
    generalize hP : selP (fineW ld th hd ot0 ot1 oh0 oh1 st0 st1 sp0 sp1 yi0 yi1 w0 w1) (widW ld th hd ot0 ot1 oh0 oh1 st0 st1 sp0 sp1 yi0 yi1) ws 0 = P at *
    clear hP hs k0' k1' hlen3
    simp -implicitDefEqProofs (maxSteps := 1000000) only [go_sem, *]
    refine sortS F _ _ v6 P.length (P.map (·.1)) g11 gm P.length P (P.map (·.2)) hP19 fa6 (by simp) hg11 fa4 fa5 ?_ hh hbd ?_
    · intro j x w h1 h2
      simp only [List.getElem?_map, Option.map_eq_some_iff] at h1 h2
      obtain ⟨q, h1, rfl⟩ := h1
      obtain ⟨q', h2, rfl⟩ := h2
      rw [h1] at h2
      cases h2
      exact hsl j q h1
    have kk := fa1.out
    obtain ⟨p, cap, e6⟩ := fa6.len
    by_cases hP0 : P = []
    · subst hP0
      subst e6
      have k0 := k0 rfl
      clear k1
      simp -implicitDefEqProofs (maxSteps := 1000000) only [go_sem, *]
    · have k1 := fun v' h' a a' b => k1 hP0 v' h' a a' b
      have x5 : (((P.length : Nat) : Int) == 0) = false := by
        simp only [beq_eq_false_iff_ne]
        intro e
        exact hP0 (List.eq_nil_of_length_eq_zero (by omega))
      have k2 := k1 v6 h kk fa8.out fa6
      rw [e6] at k2 ⊢
      clear k0 k1 fa6
      simp -implicitDefEqProofs (maxSteps := 1000000) only [go_sem, *]
theorem DCall.weaken {P : Program} {F : Fr} {f : FuncId} {args : Array Value} {h : Hp} {K : Value → Hp → Prop} (hd : DCall P F f args h (fun v h' => ∃ h2, keepH h2 h' ∧ K v h2)) : DCall P F f args h K := by
  intro w r
  refine (hd w r).mono fun e w' ⟨v, h', he, ⟨h2, hk, hv⟩, r'⟩ => ⟨v, h2, he, hv, ?_⟩
  exact ⟨fun g o e => r'.own g o (hk g o e), r'.size, r'.os, r'.tape, r'.output, r'.frame, fun g o e => r'.mine g o (hk g o e)⟩
/-- The same, of what was owned and the block of the result alone. -/
theorem bestR (F : Fr) (h : Hp) (K : Value → Hp → Prop) (ld th hd ot0 ot1 oh0 oh1 st0 st1 sp0 sp1 yi0 yi1 w0 w1 : Int) (ws : List Way) (n b off c : Nat) (hn19 : Hold (n ≤ 19)) (hr : Hold (readV (h.cell? F) b off (n * 7) = some (ws.flatMap Way.cs))) (hv : BoltOk ld th hd ot0 ot1 oh0 oh1 st0 st1 sp0 sp1 yi0 yi1) (hw : Hold (∀ w ∈ ws, w.ok = true)) (hwn : spB 0 100000000 w0 w1 = true)
    (hs : Hold (∀ (i : Nat) x y, ((selP (fineW ld th hd ot0 ot1 oh0 oh1 st0 st1 sp0 sp1 yi0 yi1 w0 w1) (widW ld th hd ot0 ot1 oh0 oh1 st0 st1 sp0 sp1 yi0 yi1) ws 0).map (·.2))[i]? = some x → ((selP (fineW ld th hd ot0 ot1 oh0 oh1 st0 st1 sp0 sp1 yi0 yi1 w0 w1) (widW ld th hd ot0 ot1 oh0 oh1 st0 st1 sp0 sp1 yi0 yi1) ws 0).map (·.2))[i + 1]? = some y → x ≤ y))
    (k0 : selP (fineW ld th hd ot0 ot1 oh0 oh1 st0 st1 sp0 sp1 yi0 yi1 w0 w1) (widW ld th hd ot0 ot1 oh0 oh1 st0 st1 sp0 sp1 yi0 yi1) ws 0 = [] → K (.tuple #[.slice none 0 0, .int .i64 7]) h)
    (k1 : selP (fineW ld th hd ot0 ot1 oh0 oh1 st0 st1 sp0 sp1 yi0 yi1 w0 w1) (widW ld th hd ot0 ot1 oh0 oh1 st0 st1 sp0 sp1 yi0 yi1) ws 0 ≠ [] → ∀ g cap tl, F.w0.heap.size ≤ g → h.own g = none → K (.tuple #[.slice (some ⟨g, 0, none⟩) (selP (fineW ld th hd ot0 ot1 oh0 oh1 st0 st1 sp0 sp1 yi0 yi1 w0 w1) (widW ld th hd ot0 ot1 oh0 oh1 st0 st1 sp0 sp1 yi0 yi1) ws 0).length cap, .int .i64 0]) (h.set g (.cells (ints ((selP (fineW ld th hd ot0 ot1 oh0 oh1 st0 st1 sp0 sp1 yi0 yi1 w0 w1) (widW ld th hd ot0 ot1 oh0 oh1 st0 st1 sp0 sp1 yi0 yi1) ws 0).map (·.1)) ++ tl).toArray 3 (0, 0)))) :
    DCall Try.prog F 29 #[.agg #[.int .i64 ld, .int .i64 th, .int .i64 hd, .int .i64 ot0, .int .i64 ot1, .int .i64 oh0, .int .i64 oh1, .int .i64 st0, .int .i64 st1, .int .i64 sp0, .int .i64 sp1, .int .i64 yi0, .int .i64 yi1], .slice (some ⟨b, off, none⟩) n c, .agg #[.int .i64 w0, .int .i64 w1]] h K := by
  refine DCall.weaken (bestD F h _ ld th hd ot0 ot1 oh0 oh1 st0 st1 sp0 sp1 yi0 yi1 w0 w1 ws n b off c hn19 hr hv hw hwn hs (fun e h' hk => ⟨h, hk, k0 e⟩) (fun e v' h' hk hx ho => ?_))
  rcases ho.2 with ⟨_, h0⟩ | ⟨g, cap, tl, rfl, hg, og, _, _⟩
  · exact absurd (List.eq_nil_of_length_eq_zero h0) e
  · refine ⟨h.set g (.cells (ints ((selP (fineW ld th hd ot0 ot1 oh0 oh1 st0 st1 sp0 sp1 yi0 yi1 w0 w1) (widW ld th hd ot0 ot1 oh0 oh1 st0 st1 sp0 sp1 yi0 yi1) ws 0).map (·.1)) ++ tl).toArray 3 (0, 0)), fun b o hb => ?_, k1 e g cap tl hg (hx g rfl)⟩
    rw [Hp.own_set] at hb
    split at hb
    · rename_i hbg; subst hbg; cases hb; exact og
    · exact hk b o hb

end Go.Proofs.Ytdhhaglaikdpbaa
