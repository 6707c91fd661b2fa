/-
  Walks. Conditions: none.
-/
import Derived.Test.YtdhhaglaikdpbaaB24
set_option linter.unusedVariables false
set_option linter.unusedSimpArgs false
namespace Go.Proofs.Ytdhhaglaikdpbaa
open Go.RowKit Go.SL
set_option maxHeartbeats 1000000
set_option maxRecDepth 1000000
attribute [local go_sem] dcode_seq dcode_plain dops_nil dops_cons GuardK_none GuardK_some GuardB_tt GuardB_ff GuardB_tf GuardB_ft GuardB_none Rest_app Then_normal Then_ret Then_exit Kont_app dop_makeMap dop_makeSlice dop_nilCheck dop_binOp dop_unOp dop_convert dop_makeInterface dop_makeFunc dop_slice dop_fieldAddr dop_field dop_indexAddr dop_index dop_lookup dop_mapUpdate dop_extract dop_call dop_load dop_store dop_move dop_assign dop_pick PickK_true PickK_false dop_box dop_alloc PtrN_app AlZ_app RowN_app RowK_some BS3_app BS2_app BS1_app fillL putAt_nil putAt_cons cyc_zero cyc_succ BD3_some PlK_nil PlC_app PlK_cons BDA_app BD2_struct BD2_array BD1_app set_set dwp_bind' dwp_pure' dwp_load' dwp_store' dwp_newObj BindK_app fin_value fin_skip fin_enter
  arr_getD getD_zero getD_succ cells_agg cells_int cells_bool cells_ptr cells_slice cells_func List.setIfInBounds_toArray List.set_cons_zero List.set_cons_succ
  List.getElem?_toArray List.getElem?_cons_zero List.getElem?_cons_succ List.map_toArray List.map_cons List.map_nil Option.bind_some
  Hp.own_set Hp.cell_def CellK_some OptK_some StoreK_some dwp_true dcode_ret Post_ret Post_normal ResK_one ResK_none ResK_more ResK_tmp ResK_cell AdK_some ResC_app List.nil_append List.cons_append true_and and_true Bool.not_true Bool.not_false dcode_cond CondK_true CondK_false dcode_block dcode_exit InBlock_normal InBlock_ret InBlock_exit dcode_skip dcode_draw dcode_loop CallK_app OwnC_some RoC_some RoC_none RB_some rval_bind' rval_pure' rval_load' rval_true TI_nil TI_cons TR_app GuardD_tt GuardD_ff GuardD_tf GuardD_ft GuardD_none GuardL_none GuardL_some PutK_app EvK_value EvK_skip EvK_enter stp_nilCheck stp_binOp stp_unOp stp_convert stp_makeFunc stp_slice stp_fieldAddr stp_field stp_indexAddr stp_index stp_extract stp_load stp_callv stp_len stp_min stp_max stp_move stp_assign stp_pick BsA_some BsB_some BsC_some stp_rd RdK_value NsA_some BiK_app InvK_app bfin_value stp_append dropV_ptr dropV_slice dropV_nil dropV_own blk_ptr drops_nil drops_cons List.contains_cons List.append_eq stp_box stp_alloc IgnK_app WrA_some AtK_app List.contains_nil EqV_app max2_eq min2_eq quo_eq rem_eq notAgg_int notAgg_bool notAgg_ptr notAgg_slice notAgg_func List.push_toArray toArr Hp.own_drop wrote_nil wrote_cons dropAt_some dropAt_undef Hp.none_own ne_eq Fr.ro_new readI_zero readI_succ readC_some allI_nil allI_cons allO_some Option.map_some List.append_toArray List.append_nil Builtin.len_ goInt RoundK_succ readV_zero readV_succ readVC_some
attribute [local go_sem] un0 ru0 sz0 rs0 ag0 ra0 ze0 rz0 un1 ru1 sz1 rs1 ag1 ra1 ze1 rz1 un2 ru2 sz2 rs2 ag2 ra2 ze2 rz2 un3 ru3 sz3 rs3 ag3 ra3 ze3 rz3 un4 ru4 sz4 rs4 ag4 ra4 ze4 rz4 un5 ru5 sz5 rs5 ag5 ra5 ze5 rz5 un6 ru6 sz6 rs6 ag6 ra6 ze6 rz6 un7 ru7 sz7 rs7 ag7 ra7 ze7 rz7 un8 ru8 sz8 rs8 ag8 ra8 ze8 rz8 un9 ru9 sz9 rs9 ag9 ra9 ze9 rz9 un10 ru10 sz10 rs10 ag10 ra10 ze10 rz10 un11 ru11 sz11 rs11 ag11 ra11 ze11 rz11 un12 ru12 sz12 rs12 ag12 ra12 ze12 rz12 un13 ru13 sz13 rs13 ag13 ra13 ze13 rz13 un14 ru14 sz14 rs14 ag14 ra14 ze14 rz14 un15 ru15 sz15 rs15 ag15 ra15 ze15 rz15 un16 ru16 sz16 rs16 ag16 ra16 ze16 rz16 un17 ru17 sz17 rs17 ag17 ra17 ze17 rz17 un18 ru18 sz18 rs18 ag18 ra18 ze18 rz18 un19 ru19 sz19 rs19 ag19 ra19 ze19 rz19 un20 ru20 sz20 rs20 ag20 ra20 ze20 rz20 un21 ru21 sz21 rs21 ag21 ra21 ze21 rz21 un22 ru22 sz22 rs22 ag22 ra22 ze22 rz22 un23 ru23 sz23 rs23 ag23 ra23 ze23 rz23 un24 ru24 sz24 rs24 ag24 ra24 ze24 rz24 un25 ru25 sz25 rs25 ag25 ra25 ze25 rz25 un26 ru26 sz26 rs26 ag26 ra26 ze26 rz26 un27 ru27 sz27 rs27 ag27 ra27 ze27 rz27 un28 ru28 sz28 rs28 ag28 ra28 ze28 rz28 un29 ru29 sz29 rs29 ag29 ra29 ze29 rz29 un30 ru30 sz30 rs30 ag30 ra30 ze30 rz30 un31 ru31 sz31 rs31 ag31 ra31 ze31 rz31 un32 ru32 sz32 rs32 ag32 ra32 ze32 rz32 un33 ru33 sz33 rs33 ag33 ra33 ze33 rz33 un34 ru34 sz34 rs34 ag34 ra34 ze34 rz34 un35 ru35 sz35 rs35 ag35 ra35 ze35 rz35 un36 ru36 sz36 rs36 ag36 ra36 ze36 rz36 un37 ru37 sz37 rs37 ag37 ra37 ze37 rz37 un38 ru38 sz38 rs38 ag38 ra38 ze38 rz38 un39 ru39 sz39 rs39 ag39 ra39 ze39 rz39 un40 ru40 sz40 rs40 ag40 ra40 ze40 rz40 un41 ru41 sz41 rs41 ag41 ra41 ze41 rz41 un42 ru42 sz42 rs42 ag42 ra42 ze42 rz42 un43 ru43 sz43 rs43 ag43 ra43 ze43 rz43 un44 ru44 ix44 rx44 sz44 rs44 ag44 ra44 ze44 rz44 un45 ru45 sz45 rs45 ag45 ra45 ze45 rz45 un46 ru46 sz46 rs46 ag46 ra46 ze46 rz46 un47 ru47 sz47 rs47 ag47 ra47 ze47 rz47 un48 ru48 sz48 rs48 ag48 ra48 ze48 rz48 un49 ru49 sz49 rs49 ag49 ra49 ze49 rz49 un50 ru50 sz50 rs50 ag50 ra50 ze50 rz50 un51 ru51 sz51 rs51 ag51 ra51 ze51 rz51 un52 ru52 sz52 rs52 ag52 ra52 ze52 rz52 un53 ru53 sz53 rs53 ag53 ra53 ze53 rz53 un54 ru54 ix54 rx54 sz54 rs54 ag54 ra54 ze54 rz54 un55 ru55 ix55 rx55 sz55 rs55 ag55 ra55 ze55 rz55 un56 ru56 sz56 rs56 ag56 ra56 ze56 rz56 un57 ru57 sz57 rs57 ag57 ra57 ze57 rz57 un58 ru58 sz58 rs58 ag58 ra58 ze58 rz58 un59 ru59 sz59 rs59 ag59 ra59 ze59 rz59 un60 ru60 sz60 rs60 ag60 ra60 ze60 rz60 un61 ru61 sz61 rs61 ag61 ra61 ze61 rz61 un62 ru62 sz62 rs62 ag62 ra62 ze62 rz62 un63 ru63 sz63 rs63 ag63 ra63 ze63 rz63 un64 ru64 ix64 rx64 sz64 rs64 ag64 ra64 ze64 rz64 un65 ru65 ix65 rx65 sz65 rs65 ag65 ra65 ze65 rz65 un66 ru66 ix66 rx66 sz66 rs66 ag66 ra66 ze66 rz66 un67 ru67 sz67 rs67 ag67 ra67 ze67 rz67 un68 ru68 ix68 rx68 sz68 rs68 ag68 ra68 ze68 rz68 un69 ru69 ix69 rx69 sz69 rs69 ag69 ra69 ze69 rz69 un70 ru70 sz70 rs70 ag70 ra70 ze70 rz70 un71 ru71 sz71 rs71 ag71 ra71 ze71 rz71 un72 ru72 ix72 rx72 sz72 rs72 ag72 ra72 ze72 rz72 un73 ru73 sz73 rs73 ag73 ra73 ze73 rz73 un74 ru74 sz74 rs74 ag74 ra74 ze74 rz74 un75 ru75 sz75 rs75 ag75 ra75 ze75 rz75 un76 ru76 sz76 rs76 ag76 ra76 ze76 rz76 un77 ru77 sz77 rs77 ag77 ra77 ze77 rz77 un78 ru78 sz78 rs78 ag78 ra78 ze78 rz78 un79 ru79 sz79 rs79 ag79 ra79 ze79 rz79 un80 ru80 sz80 rs80 ag80 ra80 ze80 rz80 un81 ru81 sz81 rs81 ag81 ra81 ze81 rz81 un82 ru82 ix82 rx82 sz82 rs82 ag82 ra82 ze82 rz82 un83 ru83 sz83 rs83 ag83 ra83 ze83 rz83 un84 ru84 ix84 rx84 sz84 rs84 ag84 ra84 ze84 rz84 un85 ru85 sz85 rs85 ag85 ra85 ze85 rz85 un86 ru86 sz86 rs86 ag86 ra86 ze86 rz86 un87 ru87 sz87 rs87 ag87 ra87 ze87 rz87 un88 ru88 ix88 rx88 sz88 rs88 ag88 ra88 ze88 rz88 un89 ru89 sz89 rs89 ag89 ra89 ze89 rz89 un90 ru90 sz90 rs90 ag90 ra90 ze90 rz90 un91 ru91 sz91 rs91 ag91 ra91 ze91 rz91 un92 ru92 ix92 rx92 sz92 rs92 ag92 ra92 ze92 rz92 un93 ru93 sz93 rs93 ag93 ra93 ze93 rz93 un94 ru94 sz94 rs94 ag94 ra94 ze94 rz94 un95 ru95 sz95 rs95 ag95 ra95 ze95 rz95 un96 ru96 sz96 rs96 ag96 ra96 ze96 rz96 un97 ru97 sz97 rs97 ag97 ra97 ze97 rz97 un98 ru98 sz98 rs98 ag98 ra98 ze98 rz98 un99 ru99 sz99 rs99 ag99 ra99 ze99 rz99 un100 ru100 ix100 rx100 sz100 rs100 ag100 ra100 ze100 rz100 un101 ru101 sz101 rs101 ag101 ra101 ze101 rz101 un102 ru102 sz102 rs102 ag102 ra102 ze102 rz102 un103 ru103 sz103 rs103 ag103 ra103 ze103 rz103 un104 ru104 sz104 rs104 ag104 ra104 ze104 rz104 un105 ru105 sz105 rs105 ag105 ra105 ze105 rz105 un106 ru106 sz106 rs106 ag106 ra106 ze106 rz106 un107 ru107 sz107 rs107 ag107 ra107 ze107 rz107 un108 ru108 sz108 rs108 ag108 ra108 ze108 rz108 un109 ru109 sz109 rs109 ag109 ra109 ze109 rz109 un110 ru110 sz110 rs110 ag110 ra110 ze110 rz110 un111 ru111 sz111 rs111 ag111 ra111 ze111 rz111 un112 ru112 sz112 rs112 ag112 ra112 ze112 rz112 un113 ru113 sz113 rs113 ag113 ra113 ze113 rz113 un114 ru114 sz114 rs114 ag114 ra114 ze114 rz114 un115 ru115 sz115 rs115 ag115 ra115 ze115 rz115 un116 ru116 sz116 rs116 ag116 ra116 ze116 rz116 un117 ru117 sz117 rs117 ag117 ra117 ze117 rz117 un118 ru118 sz118 rs118 ag118 ra118 ze118 rz118 un119 ru119 sz119 rs119 ag119 ra119 ze119 rz119 un120 ru120 sz120 rs120 ag120 ra120 ze120 rz120 un121 ru121 sz121 rs121 ag121 ra121 ze121 rz121 un122 ru122 sz122 rs122 ag122 ra122 ze122 rz122 un123 ru123 sz123 rs123 ag123 ra123 ze123 rz123 un124 ru124 sz124 rs124 ag124 ra124 ze124 rz124 un125 ru125 sz125 rs125 ag125 ra125 ze125 rz125 un126 ru126 sz126 rs126 ag126 ra126 ze126 rz126 un127 ru127 sz127 rs127 ag127 ra127 ze127 rz127 un128 ru128 sz128 rs128 ag128 ra128 ze128 rz128 un129 ru129 sz129 rs129 ag129 ra129 ze129 rz129 un130 ru130 sz130 rs130 ag130 ra130 ze130 rz130 un131 ru131 sz131 rs131 ag131 ra131 ze131 rz131 un132 ru132 sz132 rs132 ag132 ra132 ze132 rz132 un133 ru133 sz133 rs133 ag133 ra133 ze133 rz133 un134 ru134 sz134 rs134 ag134 ra134 ze134 rz134 un135 ru135 sz135 rs135 ag135 ra135 ze135 rz135 un136 ru136 sz136 rs136 ag136 ra136 ze136 rz136 un137 ru137 sz137 rs137 ag137 ra137 ze137 rz137 un138 ru138 ix138 rx138 sz138 rs138 ag138 ra138 ze138 rz138 un139 ru139 sz139 rs139 ag139 ra139 ze139 rz139 un140 ru140 sz140 rs140 ag140 ra140 ze140 rz140 un141 ru141 sz141 rs141 ag141 ra141 ze141 rz141 un142 ru142 sz142 rs142 ag142 ra142 ze142 rz142 un143 ru143 sz143 rs143 ag143 ra143 ze143 rz143 un144 ru144 sz144 rs144 ag144 ra144 ze144 rz144 un145 ru145 sz145 rs145 ag145 ra145 ze145 rz145 un146 ru146 sz146 rs146 ag146 ra146 ze146 rz146 un147 ru147 sz147 rs147 ag147 ra147 ze147 rz147 un148 ru148 sz148 rs148 ag148 ra148 ze148 rz148 un149 ru149 sz149 rs149 ag149 ra149 ze149 rz149 en2 re2 en3 re3 en4 re4 en5 re5 en6 re6 en7 re7 en8 re8 en9 re9 en10 re10 en11 re11 en12 re12 en13 re13 en14 re14 en15 re15 en16 re16 en17 re17 en18 re18 en19 re19 en20 re20 en21 re21 en22 re22 en23 re23 en24 re24 en25 re25 en26 re26 en27 re27 en28 re28 en29 re29 en30 re30 en31 re31 en32 re32 en33 re33 en34 re34 en35 re35 en36 re36 en37 re37 en38 re38 en39 re39 en40 re40 en41 re41 en42 re42 en43 re43 en44 re44 en45 re45 en46 re46 en47 re47 en48 re48 en49 re49 en50 re50 en51 re51 en52 re52 en53 re53 en54 re54 en55 re55 en56 re56 en57 re57 en58 re58 en59 re59 en60 re60 en61 re61 en62 re62 en63 re63 en64 re64 en65 re65 en66 re66 en67 re67 en68 re68 en69 re69 en70 re70 en71 re71 en72 re72 en73 re73 en74 re74 en75 re75 en76 re76 en77 re77 en78 re78 en79 re79 en80 re80 en81 re81 en82 re82 en83 re83 en84 re84 en85 re85 en86 re86 en87 re87 en88 re88 en89 re89 dwp_eql4 rval_eql4 dwp_eql23 rval_eql23 eg23 dwp_neq4 rval_neq4 dwp_neq23 rval_neq23 dwp_conv3_129 rval_conv3_129 dwp_conv5_3 rval_conv5_3 dwp_conv67_3 rval_conv67_3 dwp_conv79_3 rval_conv79_3 dwp_conv83_3 rval_conv83_3 dwp_conv129_3 rval_conv129_3
attribute [local go_sem high] dop_append
attribute [local go_sem] Int.cast_ofNat_Int beq_self_eq_true bne_self_eq_false Bool.or_self List.length_cons List.length_nil List.size_toArray Nat.zero_add Nat.zero_mul Nat.one_mul Nat.mul_one Nat.le_refl List.getElem?_cons_zero Option.getD_some and_self implies_true Int.toNat_natCast decide_true decide_false Bool.true_and Bool.and_true Bool.false_and Bool.and_false Bool.true_or Bool.or_true Bool.false_or Bool.or_false Bool.not_true Bool.not_false Option.isSome_some not_true_eq_false not_false_eq_true
attribute [local go_sem_proc] reduceCtorEq Nat.reduceAdd Nat.reduceMul Nat.reduceMod Nat.reduceSub Nat.reduceDiv Nat.reduceLeDiff Nat.reduceLT Int.reduceLE Int.reduceLT Int.reduceEq Int.reduceNeg Int.reduceMul Int.reduceAdd Int.reduceSub Int.reduceTDiv Int.reduceTMod Int.reduceBEq Int.reduceBNe Nat.reduceEqDiff Nat.reduceBEq Int.reduceToNat
attribute [local go_sem_proc ↓] reduceIte
attribute [local go_sem] i64w
attribute [local go_sem] dwp_eqGuardE dwp_eqGuardN rval_eqGuardE rval_eqGuardN
/-- The smallest and the greatest integer of a list that is not empty. -/
def minL : List Int → Int
  | [] => 0
  | x :: r => r.foldl min x
def maxL : List Int → Int
  | [] => 0
  | x :: r => r.foldl max x
def IMin (n b off c : Nat) (y : Int) (r : List Int) (k : Nat) (a : Act) (h : Hp) : Prop :=
  ∃ (i : Nat), Hold (i + k = n) ∧ Hold (1 ≤ i) ∧ h = Hp.none_ ∧ a = (fun x : Nat → Value => (⟨#[.slice (some ⟨b, off, none⟩) n c, x 1, x 2, .int .i64 ((r.take (i - 1)).foldl min y), .int .i64 i, x 5, x 6, x 7, x 8, x 9, x 10, x 11, x 12, x 13, x 14, x 15, x 16, x 17, x 18, x 19, x 20, x 21, x 22, x 23, x 24], []⟩ : Act)) (fun i => a.tmps.getD i undef)
theorem min_ok (ro : Addr → Option Value) (b off n c : Nat) (y : Int) (r : List Int) (hx : Hold (readI ro b off n = some (y :: r))) (hn : Hold (n < 2 ^ 63)) :
    Cr Try.prog 65 #[.slice (some ⟨b, off, none⟩) n c] ro (.int .i64 (minL (y :: r))) := by
  have hlen : r.length + 1 = n := by simpa using readI_len hx.out
  have c1 : ((n : Int) < 1) = False := by simp; omega
  have c2 : (0 : Int) < (n : Int) := by omega
  have r0 : ro ⟨b, off, none⟩ = some (.int .i64 y) := by have := readI_get hx.out 0 y rfl; simpa using this
  (refine Cr.of Try.func65 rfl rfl (fun F hF => ?_); simp only [Try.ntmps65, Try.results65, List.size_toArray, List.length_cons, List.length_nil, Nat.reduceAdd, Nat.reduceSub, Array.replicate_succ, Array.replicate_zero, List.push_toArray, List.append_toArray, List.nil_append, List.cons_append]; simp -implicitDefEqProofs (maxSteps := 1000000) only [go_sem])
  subst hF
  simp -implicitDefEqProofs (maxSteps := 1000000) only [go_sem, c1, c2, r0]
  refine DLoop.ind (IMin n b off c y r) (n - 1) ⟨1, ⟨by omega⟩, ⟨by omega⟩, rfl, (by kernel_rfl)⟩ ?_
  (rintro k a h ⟨i, fa0, fa1, rfl, ha⟩; generalize (fun i => Array.getD a.tmps i undef) = x at ha; dsimp only at ha; subst ha)
  simp -implicitDefEqProofs (maxSteps := 1000000) only [go_sem, *]
  refine CondK.split (fun hc => ?_) (fun hc => ?_)
  · have hlt : i < n := by simpa using hc
    have f0' := fa0.out
    have f1' := fa1.out
    have h0 : (0 : Int) ≤ (i : Int) := by omega
    have h1 : (i : Int) < (n : Int) := by omega
    obtain ⟨z, hz⟩ : ∃ z, r[i - 1]? = some z := ⟨_, List.getElem?_eq_getElem (by omega)⟩
    have hro := readI_get hx.out i z (by rw [← hz]; rw [show i = (i - 1) + 1 by omega]; simp)
    simp -implicitDefEqProofs (maxSteps := 1000000) only [go_sem, hc, h0, h1, hro]
    have hw : IntKind.i64.wrap ((i : Int) + 1) = ((i + 1 : Nat) : Int) := by
      have := hn.out
      rw [IntWalk.i64_in _ (by omega)]; push_cast; rfl
    have ht : min ((r.take (i - 1)).foldl min y) z = (r.take (i + 1 - 1)).foldl min y := by
      rw [show i + 1 - 1 = (i - 1) + 1 by omega, List.take_add_one, List.foldl_append, hz]; rfl
    rw [hw, ht]
    exact LoopK.intro (k - 1) (by omega) ⟨i + 1, ⟨by omega⟩, ⟨by omega⟩, rfl, (by kernel_rfl)⟩
  · have hge : n ≤ i := by simpa using hc
    have f0' := fa0.out
    simp -implicitDefEqProofs (maxSteps := 1000000) only [go_sem, hc]
    rw [List.take_of_length_le (by omega)]
    rfl
def IMax (n b off c : Nat) (y : Int) (r : List Int) (k : Nat) (a : Act) (h : Hp) : Prop :=
  ∃ (i : Nat), Hold (i + k = n) ∧ Hold (1 ≤ i) ∧ h = Hp.none_ ∧ a = (fun x : Nat → Value => (⟨#[.slice (some ⟨b, off, none⟩) n c, x 1, x 2, .int .i64 ((r.take (i - 1)).foldl max y), .int .i64 i, x 5, x 6, x 7, x 8, x 9, x 10, x 11, x 12, x 13, x 14, x 15, x 16, x 17, x 18, x 19, x 20, x 21, x 22, x 23, x 24], []⟩ : Act)) (fun i => a.tmps.getD i undef)
theorem max_ok (ro : Addr → Option Value) (b off n c : Nat) (y : Int) (r : List Int) (hx : Hold (readI ro b off n = some (y :: r))) (hn : Hold (n < 2 ^ 63)) :
    Cr Try.prog 66 #[.slice (some ⟨b, off, none⟩) n c] ro (.int .i64 (maxL (y :: r))) := by
  have hlen : r.length + 1 = n := by simpa using readI_len hx.out
  have c1 : ((n : Int) < 1) = False := by simp; omega
  have c2 : (0 : Int) < (n : Int) := by omega
  have r0 : ro ⟨b, off, none⟩ = some (.int .i64 y) := by have := readI_get hx.out 0 y rfl; simpa using this
  (refine Cr.of Try.func66 rfl rfl (fun F hF => ?_); simp only [Try.ntmps66, Try.results66, List.size_toArray, List.length_cons, List.length_nil, Nat.reduceAdd, Nat.reduceSub, Array.replicate_succ, Array.replicate_zero, List.push_toArray, List.append_toArray, List.nil_append, List.cons_append]; simp -implicitDefEqProofs (maxSteps := 1000000) only [go_sem])
  subst hF
  simp -implicitDefEqProofs (maxSteps := 1000000) only [go_sem, c1, c2, r0]
  refine DLoop.ind (IMax n b off c y r) (n - 1) ⟨1, ⟨by omega⟩, ⟨by omega⟩, rfl, (by kernel_rfl)⟩ ?_
  (rintro k a h ⟨i, fa0, fa1, rfl, ha⟩; generalize (fun i => Array.getD a.tmps i undef) = x at ha; dsimp only at ha; subst ha)
  simp -implicitDefEqProofs (maxSteps := 1000000) only [go_sem, *]
  refine CondK.split (fun hc => ?_) (fun hc => ?_)
  · have hlt : i < n := by simpa using hc
    have f0' := fa0.out
    have f1' := fa1.out
    have h0 : (0 : Int) ≤ (i : Int) := by omega
    have h1 : (i : Int) < (n : Int) := by omega
    obtain ⟨z, hz⟩ : ∃ z, r[i - 1]? = some z := ⟨_, List.getElem?_eq_getElem (by omega)⟩
    have hro := readI_get hx.out i z (by rw [← hz]; rw [show i = (i - 1) + 1 by omega]; simp)
    simp -implicitDefEqProofs (maxSteps := 1000000) only [go_sem, hc, h0, h1, hro]
    have hw : IntKind.i64.wrap ((i : Int) + 1) = ((i + 1 : Nat) : Int) := by
      have := hn.out
      rw [IntWalk.i64_in _ (by omega)]; push_cast; rfl
    have ht : max ((r.take (i - 1)).foldl max y) z = (r.take (i + 1 - 1)).foldl max y := by
      rw [show i + 1 - 1 = (i - 1) + 1 by omega, List.take_add_one, List.foldl_append, hz]; rfl
    rw [hw, ht]
    exact LoopK.intro (k - 1) (by omega) ⟨i + 1, ⟨by omega⟩, ⟨by omega⟩, rfl, (by kernel_rfl)⟩
  · have hge : n ≤ i := by simpa using hc
    have f0' := fa0.out
    simp -implicitDefEqProofs (maxSteps := 1000000) only [go_sem, hc]
    rw [List.take_of_length_le (by omega)]
    rfl

end Go.Proofs.Ytdhhaglaikdpbaa
