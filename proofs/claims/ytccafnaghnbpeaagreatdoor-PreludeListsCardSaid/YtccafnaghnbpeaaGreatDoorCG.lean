/- What is asked of the package-level variables: two tables lie as their texts lay them. -/
import Derived.Test.YtccafnaghnbpeaaGreatDoorProg
import Derived.Test.YtccafnaghnbpeaaGreatDoorCA1
import Derived.Lib.LaidTab
import Derived.Lib.Space
import Derived.Lib.ItoaNum
import Derived.Test.YtccafnaghnbpeaaGreatDoorCA3
import Derived.Test.YtccafnaghnbpeaaGreatDoorCQ2
import Derived.Tactics
import Derived.Tactics2
import Derived.Defers
import Derived.Recover
import Derived.Test.YtccafnaghnbpeaaGreatDoorCR1
set_option linter.all false
namespace Go.Proofs.YtccafnaghnbpeaaGreatDoor
open Go.Abs
abbrev lit0 : Nat := 231916165462873592222379327321868984620805094327958766456075280181759696829706194767495578712116003243329784868696468939286388604066137783935318405205564855714639671730852446960167453168034696785674923373114321254996769358054458306555909476191550667175697289300602814327607183032579516892670532027593013958665466358998935598707506748698159662741096134250416527136958561810319960649391015601329698684967490582070346020623517020252548509245487726122395947384200573529431246449847129053020716643359154525812687526386389454378746304468173185331350089492640603307468443314061353651552951115848350082702576993545770243722145282107875299409404273460127749195032162023174127209443790793290960956943465652804814232702709836937508880397173326730951501588146838904251359930596075841260409683370715403288176717366551450241584392078895945781939405552442644818484419002641007494939725958700603203686769292046152993134131394081270961635347237695461835624064505880378568269147326429678561315975688869205418091504702852044435009724406836936758997886973040607527936679381518973061208648041350548548483695201601851392902107346659150032669180369685373705481411374115182
abbrev lit1 : Nat := 1919319557341073683367759015832192449515720575273798048879265556556826036860314416883436038406246686432590116972190730389291380913510686545611891345311485212379320164794872813844807223552336841782428369821299949762492977768050010193956312877803361687758434515565893150315694819093578925858044774879884202148312432293638837147009883989320757584872705931294672246350043778272265808641514149295281091082844524186844390266896745649018729487331998904348532073394332345246077892321090396460061928129209541860833983837528761074026893206757648695255916091593998134225467590521673711969420193373561201881533999896356938817160917174521721022643869607529
abbrev lit2 : Nat := 72077177537363229924882352205047425118163062649555606128694240040453359757828803590792184721673760638435553528689525426341353064082068660028452209341093478176527153033960968333018941472819055332282180475151840536495345759855446820694994347001838665521582580475347760869549131646965015196478156683939791037311682914312150304782672364948069821206652154380778363415400748405526112689158614610914939695273675214140324449510764452326102389343908364358736242505233485391650103567592302024786226301716343268796112057681400648332729451160970414278537510187751591760857182291305601125869252353541744867255505796274155849610786639394101012713042445594087802709644067624613247776173561999353665234908867099267833318423293742599871312363802440983601999979321484887321961647195265886111208062847633429496898427195837030050723255413137797046592556166562696063394086948710643405415594082212162879377367307162369178702674691626075221424006353810653859638415839139094507534810747662837405092672599091757680495904398126748465673602749123948730045902431471461760410998589035197739224477828598688640608225265827945632212860309821140631656837029071692025678517337435260008725894379888778612546208123045664078836708686013867598481757394358876658120691391514436489937915839716475913565849106647631231898206750383920718685016870743023595044225137502666330955690206709916255223182980110960811596721104714564663194061679372205431074048657571242418114245560014963318464310593127060176424025712179432317537835221255815100467160171786562764260562484240963740536806007662461018790032695047482977948948380286644586657458280032616762972500875120784753632594633990117858015140046506784907217626062961325426909840456348141801523195799655705489938137361224937317438728198120062999942840957660888821469274458050249003516124109495735444728857050902179527966077080276803558562188830755049349838055862794936808168607150343527988913827133197190986964982032905484436609782469047265281384200942618645466519318221559042731279742798513779108201984141113940164150644522814877677893526146300047239936062942586664611712068305040626133836282184469130128765633661462569466063165058950092429539548263805806000419130815343903205632738682934338992566836999176147291964569480531706088780054724107402622701261815049434060684005853640254514737370379332314801536642334352447241022721986928935400900210273626410894083975253913200663159470093374387147361616393665048975885336437418208806506340760875391977372273374374250337601514014178820547787651048322437341428696586427778178124134813002303141287396577939270970720624252050523772925431276482614097805427825603653781952372445286692307529325037001820168612134623146944210328273785730566808149091345679193552133325971913094829076682275816005865441258691446602742885029564100768688538336237361481942058769942404009137883929696847051782521046947089649688954871398857454604624141920357817952421222442786162397242829767169592028702701054290186450004433344569468776464166780851585426048108441852224533257387225933469887801209583227600052375956716226699921932565902206772762037277383086054355015988188540819886491874724190463901398039413480888246347462308746065118605479286839038245553588444251425024007052693139440167491368620496610207053990328339929589814887429380750584575123978991754221076361498879089653666154274504218095547828812538241318169706015148639875578216115983292101145022311428036392387263546123341134512754521442546935170323460362921490579900168231406205701041209068769355792169082047882222772357590483105079907633318709816211347395407952442986354441002177595106248358545060091940974883074653662936666625787766373167299217183538069384984294626518018096779460079597384441666516810094931982401763973644266428229456905281669109057750841213005605277305272752420208246977916495008319780929727631063411707634180923976683593173876179082055738425968282884566306348602450494570206714350210196800052469311200449069648316612543753653094167674929581245562502806258786574931438381083790248461437298119527701461606267337486517977167812918634379960763887520312740031280382969488632525997770750007799889183083583967529565204679786797139246063272811939667715597334319265534830431896235896546644750812952835930473349250229083288193596830253088131951175682514002160708240946029475350991316466423417924456171936338977669656536396186070566900002713084918498587825815951306442320699632558757883527488876302777066857448381085022848404495253559057383802979721844737912089893439985135034953880513855646421480702980328057872918691564251193830034913950041208017058232607085296615541665507470219040117306468876651063211809967388648941402253938766392711602716886531512852213665771980739217044936192809397418599079287759497123750389520437469374685240207406260906065163022708584226116068183834729213529012566333211602516195760970271880002702054681261055525651255365988534609411724196422722141873103096209772651871606518844647916395928038373083542148782861189731735834910928705831229981693654109041495681141859338573808686435583012324381396203270529875248882011109312144167039441637950740381543119671289621927820985064256110322621954123985514096204654534695527504169638676804617843833226829187719352510050264522013643364533908511281893167133646023568534251527361052923387889634585675233343218694800880585685958895604732097631918439771524521063918610796128473347865349501985545048466097947449607147145697973611996278782523531602729954538577065434221999256119636580212194024889442208515637264421885161716305709400097730744488929146726019522885074099385580936722872405069732939152183782150332407698858539974971172392549085083465729426892814940865165432849818937270184935291518847962430418441377436974028013685575780070149231130718535641172396525593481835233168014386489842401318134294653686395343005516603227081351162051410867605238036268280835818835532521408634363266314957114251868089508175057373947142301766067710072880610091396177832433102825244866043971943543745690353239533988188381873974031525671743027359766773650178798421543218261069672166382721823690633729063001869882560532044097224046187416027265384388838662613926391504369167421623970193798259685315431251523788043092920350277300345953372508552149854722462865244881640485786663347240
abbrev lit3 : Nat := 9938655150514779720929161263213647789093395803754561035662628441001274968862597953692946393464194303251501229616933063375291039650253924995779037586872666250072396106842829501851083234932712366962979930255066872747696324303968523733872590022915936937156789320557469720923390131174387415513794469201054844961267015441141542819553679203788501627738430154234325528792480477051962324423099068299719245009424585859096469223093538032153047611602695245052081125123941502624659711709950000
theorem asciiG : Tryz.prog.globalNamed "strings.asciiSpace" = some 0 := by kernel_rfl
theorem powG : Tryz.prog.globalNamed "internal/strconv.uint64pow10" = some 2 := by kernel_rfl
theorem tab_size {s : String} {g : Nat} {k : IntKind} {t : List Int} (e : Tryz.prog.globalNamed s = some g) {w : World} (h : Lib.TabIs Tryz.prog w s k t) : g + 1 ≤ w.heap.size := by
 unfold Lib.TabIs World.var? at h
 rw [e] at h
 simp only [Option.bind_some] at h
 split at h
 ·rename_i hc; exact (Array.getElem?_eq_some_iff.1 hc).1
 ·cases h
theorem tab_stable {s : String} {g : Nat} {k : IntKind} {t : List Int} (e : Tryz.prog.globalNamed s = some g) {N : Nat} (hN : g < N) {w w' : World} (h : Lib.TabIs Tryz.prog w s k t) (hb : ∀ b, b < N → w'.heap[b]? = w.heap[b]?) : Lib.TabIs Tryz.prog w' s k t := by
 unfold Lib.TabIs World.var? at h ⊢
 rw [e] at h ⊢
 simp only [Option.bind_some] at h ⊢
 rw [hb _ hN]
 exact h
def gN : Nat := max (0 + 1) (2 + 1)
def GG : Glob := { N := gN, pred := fun w => Lib.TabIs Tryz.prog w "strings.asciiSpace" .u8 Lib.asciiSpaceTab ∧ Lib.TabIs Tryz.prog w "internal/strconv.uint64pow10" .u64 Lib.pow10Tab, stable := fun _ _ h hb => ⟨tab_stable asciiG (by decide) h.1 hb, tab_stable powG (by decide) h.2 hb⟩, size := fun _ h => Nat.max_le.2 ⟨tab_size asciiG h.1, tab_size powG h.2⟩ }
end Go.Proofs.YtccafnaghnbpeaaGreatDoor
namespace Go.Proofs.YtccafnaghnbpeaaGreatDoor
open Go.Abs

theorem mixedO : Tryz.prog.follows .mixedOrders = true := by kernel_rfl
theorem flat2 {P : Program} {t : TypeId} {f g : Field} {k l : K3} (hu : P.underlying t = some (.struct #[f, g])) (hs : P.stoodInHeld t = false) (hg : P.eqGuardType P.depth t = false) (hf1 : f.name ≠ "_") (hf2 : f.offset = 0) (hf3 : k.is P f.type)
  (hg1 : g.name ≠ "_") (hg2 : g.offset = 1) (hg3 : l.is P g.type) : FlatEq P t [k, l] := by
 refine ⟨#[f, g], hu, hs, hg, rfl, fun i x y hx hy => ?_⟩
 rcases i with _ | _ | i
 ·injection hx with hx; injection hy with hy; subst hx hy; exact ⟨hf1, hf2, hf3⟩
 ·injection hx with hx; injection hy with hy; subst hx hy; exact ⟨hg1, hg2, hg3⟩
 ·simp at hy
def EQS : List (TypeId × List K3) := [(31, [.str, .str]), (95, [.int, .int])]
theorem eqOks : ∀ t ks, (t, ks) ∈ EQS → FlatEq Tryz.prog t ks := fun t ks h => by
 simp only [EQS, List.mem_cons, List.mem_nil_iff, or_false, Prod.mk.injEq] at h
 rcases h with ⟨rfl, rfl⟩ | ⟨rfl, rfl⟩
 ·exact flat2 Tryz.underlying31 Tryz.stoodInHeld31 Tryz.eqGuardType31 (by decide) rfl Tryz.underlying9 (by decide) rfl Tryz.underlying9
 ·exact flat2 Tryz.underlying95 Tryz.stoodInHeld95 Tryz.eqGuardType95 (by decide) rfl ⟨.i64, by kernel_rfl⟩ (by decide) rfl ⟨.i64, by kernel_rfl⟩
theorem tabOk0 : ∀ g F, (g, F) ∈ ([] : List (FuncId × (List D → List (List D) → Option (Bool × Res × List (List D))))) → ∀ ds hs r hs', F ds hs = some (true, r, hs') → CM Tryz.prog GG g ds hs r hs' := fun g F h => by cases h
noncomputable def X0 : Pr := { P := Tryz.prog, G := GG, eqs := EQS, eqOk := eqOks, mixed := mixedO, tab := [], own := fun x y => match x, y with | .tmp i, .tmp j => Nat.beq i 142 && Nat.beq j 143 | _, _ => false, tabOk := tabOk0 }
/-- The body of a function. -/
def bodyOf (f : Func) : Code := f.body.getD .skip
/-- What a function needs. -/
def needJ (X : Pr) (L : Nat → (St → (St → Prop) → Prop) → St → Prop) (J : Nat → Option Cut) (fn : Func) (ds : List D) (hs : List (List D)) (r : Res) (hs' : List (List D)) : Prop :=
 vc X hs.length L J (bodyOf fn) 0 0 (Abs.start fn.ntmps ds hs) (fin X.P fn.results.toList hs.length [] r hs') (fun _ _ => False) (fin X.P fn.results.toList hs.length [] r hs') (fun d => r = .pan d)
def need (X : Pr) (L : Nat → (St → (St → Prop) → Prop) → St → Prop) := needJ X L noCut
theorem of_need {X : Pr} {f : FuncId} {fn : Func} (hf : X.P.funcs[f]? = some fn) (hb : fn.body.isSome = true) (hcall : ∀ args w, (callFunc f args).run X.P w = .ok (.enter f args) w) {ds : List D} {hs : List (List D)} {r : Res} {hs' : List (List D)}
  {L : Nat → (St → (St → Prop) → Prop) → St → Prop} (hL : ∀ p body s, L p body s → VLoop hs.length body s) {J : Nat → Option Cut} (h : needJ X L J fn ds hs r hs') : CM X.P X.G f ds hs r hs' := by
 obtain ⟨c, hc⟩ := Option.isSome_iff_exists.1 hb
 refine contract (J := J) (gv := []) hf hc hcall hL ?_
 unfold needJ bodyOf at h
 rw [hc] at h
 exact h
theorem noLoops {n : Nat} : ∀ p body s, noLoop p body s → VLoop n body s := fun _ _ _ h => h.elim
theorem via {p q : Prop} (h : p = q) (hq : q) : p := h ▸ hq
end Go.Proofs.YtccafnaghnbpeaaGreatDoor
namespace Go.Proofs.YtccafnaghnbpeaaGreatDoor
open Go.Abs
abbrev FF := FuncId → FunT
abbrev LV := List V
abbrev LB := List Bx
abbrev TQ := Tre Q
abbrev KJ := List V → List Bx → Om
noncomputable section
/-- Results by their forms. -/
def crOf (U : CombU) (T : FuncId → Option Sh) (ro : FuncId → Bool) : CastT := fun g bs0 v bs K => match T g with
 | some s => cast U s v fun v => cond (ro g) (U.same bs0 bs (K v none)) (castBs U (bs0.map shapeB) bs fun bs => K v (some bs))
 | none => cond (ro g) (U.same bs0 bs (K v none)) (castBs U (bs0.map shapeB) bs fun bs => K v (some bs))
theorem crOfOk (T : FuncId → Option Sh) (ro : FuncId → Bool) : CastOk (crOf CU T ro) := fun g bs0 v bs K r h => by
 have key : ∀ v : V, cond (ro g) (CU.same bs0 bs (K v none)) (castBs CU (bs0.map shapeB) bs fun bs => K v (some bs)) = some r →
   (∃ bs', bs'.map toB = bs.map toB ∧ K v (some bs') = some r) ∨ (bs = bs0 ∧ K v none = some r) := by
  intro v h
  cases hr : ro g with
  | true =>
   rw [hr] at h
   have h : cond (eqBs bs0 bs) (K v none) none = some r := h
   cases he : eqBs bs0 bs with
   | true => rw [he] at h; exact .inr ⟨(eqBs_eq he).symm, h⟩
   | false => rw [he] at h; cases h
  | false =>
   rw [hr] at h
   obtain ⟨bs', e2, h⟩ := castBs_some h
   exact .inl ⟨bs', e2, h⟩
 unfold crOf at h
 split at h
 ·obtain ⟨v', e1, h⟩ := cast_some h
  rcases key v' h with ⟨bs', e2, h⟩ | ⟨e2, h⟩
  ·exact .inl ⟨v', bs', e1, e2, h⟩
  ·exact .inr ⟨v', e1, e2, h⟩
 ·rcases key v h with ⟨bs', e2, h⟩ | ⟨e2, h⟩
  ·exact .inl ⟨v, bs', rfl, e2, h⟩
  ·exact .inr ⟨v, rfl, e2, h⟩
/-- A function, its arguments and boxes of these forms. -/
def resF (U : CombU) (X : Pr) (T : FuncId → Option Sh) (ro : FuncId → Bool) (gv : List (Option Nat)) (f : Func) (vs0 : List Sh) (bs0 : List ShB) (fn : FuncId → FunT) (AL AJ : Nat → Option Ann) : FunT := fun vs bs =>
 castL U vs0 vs fun vs => castBs U bs0 bs fun bs => evFn U X fn (crOf U T ro) AL AJ gv f vs bs
theorem boxD_of {a b : List Bx} (h : a.map toB = b.map toB) (hb : b.all boxOk = true) : a.all boxOk = true ∧ a.map boxD = b.map boxD := by
 have ha := all_boxOk h.symm hb
 refine ⟨ha, ?_⟩
 have hl : a.length = b.length := by have := congrArg List.length h; simpa using this
 apply List.ext_getElem
 ·simpa using hl
 ·intro i hi1 hi2
  simp only [List.length_map] at hi1 hi2
  simp only [List.getElem_map]
  have q1 := List.all_eq_true.1 ha _ (List.getElem_mem hi1)
  have q2 := List.all_eq_true.1 hb _ (List.getElem_mem hi2)
  have q3 : (a.map toB)[i]? = (b.map toB)[i]? := by rw [h]
  rw [List.getElem?_map, List.getElem?_map, List.getElem?_eq_getElem hi1, List.getElem?_eq_getElem hi2] at q3
  simp only [Option.map_some] at q3
  injection q3 with q3
  rw [boxD_eq q1, boxD_eq q2] at q3
  injection q3
theorem resF_ok {X : Pr} {T : FuncId → Option Sh} {ro : FuncId → Bool} {fn : FuncId → FunT} (htab : X.tab = []) (hfn : ∀ g, FnOk X g (fn g)) {AL AJ : Nat → Option Ann} {gv : List (Option Nat)} {f : FuncId} {F : Func} {vs0 : List Sh} {bs0 : List ShB} (hf : X.P.funcs[f]? = some F) (hb : F.body.isSome = true)
  (hcall : ∀ args w, (callFunc f args).run X.P w = .ok (.enter f args) w) : FnOk X f (resF CU X T ro gv F vs0 bs0 fn AL AJ) := by
 intro vs bs x bs' h hok
 unfold resF at h
 obtain ⟨vs', e1, h⟩ := castL_some h
 obtain ⟨bs2, e2, h⟩ := castBs_some h
 obtain ⟨hok2, eb⟩ := boxD_of e2 hok
 have := evFn_ok htab hfn (crOfOk T ro) hf hb hcall vs' bs2 x bs' h hok2
 rw [e1, eb] at this
 exact this
/-- A function with a deferred call. -/
def resFD (U : CombU) (X : Pr) (T : FuncId → Option Sh) (ro : FuncId → Bool) (gv : List (Option Nat)) (f : Func) (vs0 : List Sh) (bs0 : List ShB) (fn : FuncId → FunT) (AL AJ : Nat → Option Ann) : FunT := fun vs bs =>
 castL U vs0 vs fun vs => castBs U bs0 bs fun bs => evFnD U X fn (crOf U T ro) AL AJ gv f vs bs
theorem resFD_ok {X : Pr} {T : FuncId → Option Sh} {ro : FuncId → Bool} {fn : FuncId → FunT} (htab : X.tab = []) (hfn : ∀ g, FnOk X g (fn g)) {AL AJ : Nat → Option Ann} {gv : List (Option Nat)} {f g : FuncId} {F : Func} {vs0 : List Sh} {bs0 : List ShB} (hf : X.P.funcs[f]? = some F) (hd : defFn F = some g)
  (hcall : ∀ args w, (callFunc f args).run X.P w = .ok (.enter f args) w) (hg : ∀ args w, (callFunc g args).run X.P w = .ok (.enter g args) w) (hidle : Idle X.P g) : FnOk X f (resFD CU X T ro gv F vs0 bs0 fn AL AJ) := by
 intro vs bs x bs' h hok
 unfold resFD at h
 obtain ⟨vs', e1, h⟩ := castL_some h
 obtain ⟨bs2, e2, h⟩ := castBs_some h
 obtain ⟨hok2, eb⟩ := boxD_of e2 hok
 have := evFnD_ok htab hfn (crOfOk T ro) hf hd hcall hg hidle vs' bs2 x bs' h hok2
 rw [e1, eb] at this
 exact this
/-- A panic goes on. -/
def pn (U : CombU) : V → Om := fun v => some (.pan (U.rn0 v), [])
/-- The first that answers. -/
def altF (F G : FunT) : FunT := fun vs bs => match F vs bs with
 | some r => some r
 | none => G vs bs
theorem altF_ok {X : Pr} {g : FuncId} {F G : FunT} (hF : FnOk X g F) (hG : FnOk X g G) : FnOk X g (altF F G) := fun vs bs x bs' h hok => by
 unfold altF at h
 split at h
 ·rename_i r hr
  injection h with h
  subst h
  exact hF vs bs x bs' hr hok
 ·exact hG vs bs x bs' h hok
theorem none_ok {X : Pr} {g : FuncId} : FnOk X g (fun _ _ => none) := fun _ _ _ _ h => by cases h
/-- Functions, wrapped: what a table gives is looked up once. -/
structure Wr where
 f : FunT
def appW (w : Wr) : FunT := Wr.rec (motive := fun _ => FunT) (fun f => f) w
/-- A table of functions; fn: the functions that they call. -/
abbrev FTab := List (FuncId × ((FuncId → FunT) → FunT))
def lookF (g : FuncId) : FTab → Option ((FuncId → FunT) → FunT)
 | [] => none
 | x :: xs => bif Nat.beq x.1 g then some x.2 else lookF g xs
/-- What the functions of a table give, run so deep. -/
def runW (T : FTab) (n : Nat) : FuncId → Wr := Nat.rec (motive := fun _ => FuncId → Wr) (fun _ => ⟨fun _ _ => none⟩) (fun _ ih g => match lookF g T with
 | some F => ⟨F fun g => appW (ih g)⟩
 | none => ⟨fun _ _ => none⟩) n
theorem lookF_mem {g : FuncId} {F : (FuncId → FunT) → FunT} : ∀ {T : FTab}, lookF g T = some F → (g, F) ∈ T
 | [], h => by cases h
 | x :: xs, h => by
  simp only [lookF] at h
  cases hb : Nat.beq x.1 g with
  | true =>
   rw [hb] at h
   injection h with h
   rw [← h, ← Nat.eq_of_beq_eq_true hb]
   exact List.mem_cons_self
  | false => rw [hb] at h; exact List.mem_cons_of_mem _ (lookF_mem h)
theorem runW_ok {X : Pr} {T : FTab} (hT : ∀ g F, (g, F) ∈ T → ∀ fn, (∀ g, FnOk X g (fn g)) → FnOk X g (F fn)) : ∀ (n : Nat) (g : FuncId), FnOk X g (appW (runW T n g))
 | 0, g => none_ok
 | n + 1, g => by
  show FnOk X g (appW (match lookF g T with
   | some F => ⟨F fun g => appW (runW T n g)⟩
   | none => ⟨fun _ _ => none⟩))
  split
  ·rename_i F hF
   exact hT g F (lookF_mem hF) _ (runW_ok hT n)
  ·exact none_ok
end
end Go.Proofs.YtccafnaghnbpeaaGreatDoor
namespace Go.Proofs.YtccafnaghnbpeaaGreatDoor
open Go.Abs
theorem catch_idle : Idle Tryz.prog 59 := fun v w _ => by
 have key : CallsD Tryz.prog 59 #[v] .returning w fun e u' w' => e = .returned (.tuple #[]) ∧ u' = .returning ∧ w' = w := by
  refine callsD_of_wpS Tryz.func59 rfl fun c₀ cs hu => ?_
  apply wpS_seq
  apply wpS_region
  simp [wpOpsS, go_sem, recoverD, hu, Tryz.ntmps59, Exit.thenS]
  apply wpS_seq
  apply wpS_seq
  apply wpS_region
  simp [wpOpsS, go_sem, Exit.thenS]
  refine wpS_cond (t := true) (by simp [Act.eval, Array.replicate]) ?_
  simp only [if_true]
  refine wpS_of_wp (wp_ret ?_)
  cases c₀
  simp_all [bodyPostS, results, Tryz.results59, Exit.thenS]
 refine key.mono ?_
 rintro e u' w' ⟨rfl, rfl, rfl⟩
 exact ⟨⟨_, rfl⟩, rfl, rfl⟩
end Go.Proofs.YtccafnaghnbpeaaGreatDoor
namespace Go.Proofs.YtccafnaghnbpeaaGreatDoor
open Go.Abs
noncomputable section
abbrev HG (fn : FF) : Prop := ∀ g, FnOk X0 g (fn g)
/-- An answer that the function's contract bears out. -/
def AnsT (g : FuncId) (vs : List V) (bs : List Bx) (v : VRes) (bs' : List Bx) : Prop := bs.all boxOk = true → CM X0.P X0.G g (vs.map toD) (bs.map boxD) (resD v) (bs'.map boxD)
def Know (g : FuncId) (sp : Sp) : Prop := ∀ i vs bs, RVs (sp.A i) vs → RBs (sp.B i) bs → ∃ v bs', AnsT g vs bs v bs' ∧ RRes (sp.R i) v ∧ RBs (sp.B' i) bs'
abbrev Env := List (FuncId × Sp)
def look (g : FuncId) : Env → Option Sp
 | [] => none
 | x :: xs => bif Nat.beq x.1 g then some x.2 else look g xs
inductive EnvOk : Env → Prop
 | nil : EnvOk []
 | cons {g : FuncId} {sp : Sp} {E : Env} : Know g sp → EnvOk E → EnvOk ((g, sp) :: E)
theorem EnvOk.look {g : FuncId} {sp : Sp} {E : Env} (h : EnvOk E) (e : look g E = some sp) : Know g sp := by
 induction h with
 | nil => cases e
 | @cons g' sp' E' k _ ih =>
  simp only [YtccafnaghnbpeaaGreatDoor.look] at e
  cases hb : Nat.beq g' g with
  | true => rw [hb] at e; injection e with e; subst e; rw [← Nat.eq_of_beq_eq_true hb]; exact k
  | false => rw [hb] at e; exact ih e
open Classical in
/-- The table of what is known. -/
def fnOf (E : Env) : FF := fun g vs bs => if h : ∃ p : VRes × List Bx, AnsT g vs bs p.1 p.2 ∧ ∃ sp i, look g E = some sp ∧ RVs (sp.A i) vs ∧ RBs (sp.B i) bs ∧ RRes (sp.R i) p.1 ∧ RBs (sp.B' i) p.2 then some (Classical.choose h) else none
theorem fnOf_ok (E : Env) : HG (fnOf E) := fun g vs bs x bs' h => by
 unfold fnOf at h
 split at h
 ·rename_i hc
  injection h with h
  have := (Classical.choose_spec hc).1
  rw [h] at this
  exact this
 ·cases h
theorem fnOf_ans {E : Env} (hE : EnvOk E) {g : FuncId} {sp : Sp} (e : look g E = some sp) : Ans (fnOf E) g sp := fun i vs bs hv hb => by
 have hx : ∃ p : VRes × List Bx, AnsT g vs bs p.1 p.2 ∧ ∃ sp i, look g E = some sp ∧ RVs (sp.A i) vs ∧ RBs (sp.B i) bs ∧ RRes (sp.R i) p.1 ∧ RBs (sp.B' i) p.2 := by
  obtain ⟨v, bs', h1, h2, h3⟩ := hE.look e i vs bs hv hb
  exact ⟨(v, bs'), h1, sp, i, e, hv, hb, h2, h3⟩
 obtain ⟨h1, sp', j, e', hv', hb', h2, h3⟩ := Classical.choose_spec hx
 rw [e] at e'
 injection e' with e'
 subst e'
 obtain ⟨q1, q2⟩ := sp.inj i j vs bs hv hv' hb hb'
 refine ⟨(Classical.choose hx).1, (Classical.choose hx).2, ?_, q1 ▸ h2, q2 ▸ h3⟩
 unfold fnOf
 rw [dif_pos hx]
theorem know {g : FuncId} {sp : Sp} {F : CombU → FF → FunT} (hF : ∀ fn, HG fn → FnOk X0 g (F CU fn)) (E : Env) (hE : EnvOk E)
  (h : ∀ U fn, (∀ g sp, look g E = some sp → Ans fn g sp) → ∀ i vs bs, RVs (sp.A i) vs → RBs (sp.B i) bs → Sat U (F U fn vs bs) fun v bs' => RRes (sp.R i) v ∧ RBs (sp.B' i) bs') : Know g sp := fun i vs bs hv hb => by
 obtain ⟨v, bs', h1, h2, h3⟩ := h CU (fnOf E) (fun g sp e => fnOf_ans hE e) i vs bs hv hb rfl
 exact ⟨v, bs', fun hok => hF _ (fnOf_ok E) vs bs v bs' h1 hok, h2, h3⟩
theorem know_rec {g : FuncId} {sp : Sp} (μ : sp.ι → Nat) (h : ∀ n, Know g (sp.lt μ n) → Know g (sp.lt μ (n + 1))) : Know g sp := by
 have : ∀ n, Know g (sp.lt μ n) := by
  intro n
  induction n with
  | zero => intro i; exact absurd i.2 (Nat.not_lt_zero _)
  | succ n ih => exact h n ih
 intro i
 exact this (μ i + 1) ⟨i, Nat.lt_succ_self _⟩
end
end Go.Proofs.YtccafnaghnbpeaaGreatDoor
