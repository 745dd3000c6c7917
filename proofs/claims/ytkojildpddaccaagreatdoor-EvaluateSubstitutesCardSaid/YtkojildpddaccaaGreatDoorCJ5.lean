/- The built-in functions of two arguments. -/
import Derived.Test.YtkojildpddaccaaGreatDoorCJ4
set_option linter.all false
namespace Go.Proofs.YtkojildpddaccaaGreatDoor
open Go.Abs LQ
set_option maxRecDepth 100000
set_option maxHeartbeats 4000000
noncomputable section
instance {s:Sy}:NX (sg s):=⟨rfl⟩
theorem g0j {U:C3} {P:K0→List Bx→Prop} {x y:List UInt8} {l c1 c2:Nat} {K:Nat→Om} (h1:l=x.length) (e1:c1=D0 x) (e2:c2=D0 y) (k:t6 U (K (D0 (x ++ y))) P):t6 U (U.fN (U.sCat l c1 c2) K) P:=fun e=>by
 subst h1 e1 e2;have:=k e;subst e;rw [b0a];show ∃ v bs,K (sCat x.length (D0 x) (D0 y))=some (v,bs)∧P v bs;rw [c3i];exact this
def Y9 (s:u5) (a b:O):O :=
 if s=s5 5 465491554661 then G0 (O.eqb a b) else
 if s=s5 4 1936617315 then O.co a b else
 if s=s5 8 3111276449750739298 then a0b a b else
 if s=s5 8 3039218855712811362 then Y5 a b else
 if s=s5 1 60 then G0 (a7s a b) else
 if s=s5 6 121437607456361 then (if a.isTx=true∧b.isTx=true∧named (b.strT,a.strT)=true then O.sy (b.strT,a.strT) else F6) else
 if s=s5 13 7956982234992646578836044149875 then O.tx (a.strT ++ b.strT) else
 if s=s5 11 122651541423547657927947379 then (if (a1w a b).2=true then O.num ((a.strT.getD (a1w a b).1.toNat 0).toNat:Int) 1 else F6) else
 .no
open Classical in
def apV (o:O):Option (O × Int):=if o.sm then some (if decide (o.size≤3000) && o.fm then (o,0) else (.no,2)) else none
def apO:Ap:=fun f os=>match D7 f with
 | none=>some (.no,7)
 | some n=>if (os.length:Int)=n then (match os with
  | [a]=>(g9o f.2 a).bind apV
  | [a,b]=>(h1h f.2 a b).bind apV
  | [a,b,c]=>apV (if O.eqb a F6 then c else b)
  | _=>none) else some (.no,5)
theorem b0f {o:O} {r:O × Int} (h:apV o=some r):o.sm∧r=(if decide (o.size≤3000) && o.fm then (o,0) else (.no,2)):=by
 unfold apV at h;split at h
 ·injection h with h;exact ⟨aS,h.symm⟩
 ·cases h
open Classical in
def apT:Ap:=fun f os=>match D7 f with
 | none=>some (.no,7)
 | some n=>if (os.length:Int)=n then (match os with
  | [a]=>if a.ok then apV (H0 f.2 a) else none
  | [a,b]=>if a.ok∧b.ok then apV (Y9 f.2 a b) else none
  | [a,b,c]=>apV (if O.eqb a F6 then c else b)
  | _=>none) else some (.no,5)
def W (L:List (List F)) (E:Prop) (t:T) (env:M7) (l:Nat) (Q:O→Nat→Prop):Prop :=
 ∃ n r,H1 apO L n t env l=some r∧(r.2.1=0∧Q r.1 r.2.2∨r.2.1 ≠ 0∧E)
variable {L:List (List F)} {E:Prop}
abbrev y0:Sy:=(B0,(s5 3 7630702))
abbrev y1:Sy:=(B0,(s5 1 112))
abbrev y2:Sy:=(B0,(s5 1 116))
abbrev y3:Sy:=(B0,(s5 2 26217))
abbrev y4:Sy:=(B0,(s5 3 7104878))
def zf0:Fin 11→G:=fun i=>([.i .i64 0,.s (s5 0 0),.s (s5 0 0),.i .i64 0,.s (s5 0 0),.s (s5 0 0),.s (s5 0 0),.s (s5 0 0),.s (s5 0 0),.l [],.l []]:List G).getD i.1 (.b false)
def V8:Fin 17→G:=fun i=>([.s (s5 0 0),.l [],.s (s5 0 0),.s (s5 0 0),.l [],.b false,.i .i64 0,.s (s5 0 0),.s (s5 0 0),.i .i64 0,.s (s5 0 0),.s (s5 0 0),.s (s5 0 0),.s (s5 0 0),.s (s5 0 0),.l [],.l []]:List G).getD i.1 (.b false)
def U8:Fin 11→G:=fun i=>([.l [],.l [],.l [],.s (s5 0 0),.s (s5 0 0),.l [],.l [],.l [],.l [],.s (s5 0 0),.i .u64 0]:List G).getD i.1 (.b false)
abbrev y5:Sy:=(B0,(s5 7 32481125787004265))
abbrev y6:Sy:=(B0,(s5 1 113))
abbrev y7:Sy:=(B0,(s5 3 6710889))
abbrev y8:Sy:=(B0,(s5 8 8101519867924934498))
abbrev y9:Sy:=(B0,(s5 1 120))
abbrev y10:Sy:=(B0,(s5 5 465491554661))
abbrev y11:Sy:=(B0,(s5 7 31657557352151411))
abbrev y12:Sy:=(B0,(s5 4 1836020833))
abbrev y13:Sy:=(B0,(s5 5 482972954467))
abbrev y14:Sy:=(B0,(s5 4 1885630053))
abbrev y15:Sy:=(B0,(s5 3 7891302))
abbrev y16:Sy:=(B0,(s5 9 2073844980909096591730))
abbrev y17:Sy:=(B0,(s5 4 2020173417))
abbrev y18:Sy:=(B0,(s5 8 8102650174351109737))
abbrev y19:Sy:=(B0,(s5 4 1886675310))
abbrev y20:Sy:=(B0,(s5 1 60))
abbrev y21:Sy:=(B0,(s5 4 1886613360))
abbrev y22:Sy:=(B0,(s5 4 2020173422))
abbrev y23:Sy:=(B0,(s5 2 28794))
abbrev y24:Sy:=(B0,(s5 5 500069396323))
abbrev y25:Sy:=(B0,(s5 8 3111276449750739298))
abbrev y26:Sy:=(B0,(s5 3 7496035))
abbrev y27:Sy:=(B0,(s5 3 7496803))
def zf3:Fin 11→G:=fun i=>([.i .i64 3,.s (s5 4 1886611820),.s (s5 5 500069396323),.i .i64 0,.s (s5 0 0),.s (s5 0 0),.s (s5 0 0),.s (s5 0 0),.s (s5 0 0),.l [],.l [[.i .i64 1,.s (s5 4 1886611820),.s (s5 1 120),.i .i64 0,.s (s5 0 0),.s (s5 0 0),.s (s5 0 0),.s (s5 0 0),.s (s5 0 0),.l [],.l []]]]:List G).getD i.1 (.b false)
abbrev y28:Sy:=(B0,(s5 6 123619517017455))
abbrev y29:Sy:=(B0,(s5 16 154763657438445722016110534213293714799))
abbrev y30:Sy:=(B0,(s5 19 2596503303086219638716254741629954753688907119))
abbrev y31:Sy:=(B0,(s5 6 128038972042607))
abbrev y32:Sy:=(B0,(s5 2 15471))
abbrev y33:Sy:=(B0,(s5 1 121))
abbrev y34:Sy:=(B0,(s5 3 7351663))
abbrev y35:Sy:=(B0,(s5 3 7234924))
abbrev y36:Sy:=(B0,(s5 10 531053184691079719776884))
abbrev y37:Sy:=(B0,(s5 13 7956982234992646598644298836322))
abbrev y38:Sy:=(B0,(s5 4 1936617315))
abbrev y39:Sy:=(B0,(s5 3 7759218))
abbrev y40:Sy:=(B0,(s5 12 33542201473859071681443489133))
abbrev y41:Sy:=(B0,(s5 1 101))
abbrev y42:Sy:=(B0,(s5 11 131024224507261934500016993))
abbrev y43:Sy:=(B0,(s5 1 107))
abbrev y44:Sy:=(B0,(s5 1 97))
def zf4:Fin 11→G:=fun i=>([.i .i64 3,.s (s5 4 1886611820),.s (s5 5 500069396323),.i .i64 0,.s (s5 0 0),.s (s5 0 0),.s (s5 0 0),.s (s5 0 0),.s (s5 0 0),.l [],.l [[.i .i64 1,.s (s5 4 1886611820),.s (s5 1 97),.i .i64 0,.s (s5 0 0),.s (s5 0 0),.s (s5 0 0),.s (s5 0 0),.s (s5 0 0),.l [],.l []]]]:List G).getD i.1 (.b false)
abbrev y45:Sy:=(B0,(s5 3 6845550))
abbrev y46:Sy:=(B0,(s5 1 110))
def zf5:Fin 11→G:=fun i=>([.i .i64 3,.s (s5 4 1886611820),.s (s5 4 2020173422),.i .i64 0,.s (s5 0 0),.s (s5 0 0),.s (s5 0 0),.s (s5 0 0),.s (s5 0 0),.l [],.l [[.i .i64 1,.s (s5 4 1886611820),.s (s5 1 110),.i .i64 0,.s (s5 0 0),.s (s5 0 0),.s (s5 0 0),.s (s5 0 0),.s (s5 0 0),.l [],.l []]]]:List G).getD i.1 (.b false)
abbrev y47:Sy:=(B0,(s5 10 493273875644262058848373))
abbrev y48:Sy:=(B0,(s5 1 118))
abbrev y49:Sy:=(B0,(s5 12 31382965401887741211696264053))
def zf6:Fin 17→G:=fun i=>([.s (s5 4 1919251317),.l [[.s (s5 4 1886611820),.s (s5 2 26217)],[.s (s5 4 1886611820),.s (s5 5 465491554661)],[.s (s5 4 1886611820),.s (s5 4 1936617315)],[.s (s5 4 1886611820),.s (s5 3 7496035)],[.s (s5 4 1886611820),.s (s5 3 7496803)],[.s (s5 4 1886611820),.s (s5 5 482972954467)],[.s (s5 4 1886611820),.s (s5 7 31644423040104819)],[.s (s5 4 1886611820),.s (s5 7 31638921304765555)],[.s (s5 4 1886611820),.s (s5 9 2073844980909096591730)],[.s (s5 4 1886611820),.s (s5 8 8102650174351109737)],[.s (s5 4 1886611820),.s (s5 8 3111276449750739298)],[.s (s5 4 1886611820),.s (s5 8 3039218855712811362)],[.s (s5 4 1886611820),.s (s5 7 12716373585260149)],[.s (s5 4 1886611820),.s (s5 7 13279323538681461)],[.s (s5 4 1886611820),.s (s5 1 60)],[.s (s5 4 1886611820),.s (s5 9 2110959975582353159534)],[.s (s5 4 1886611820),.s (s5 11 138343872958643594702251364)],[.s (s5 4 1886611820),.s (s5 5 491495844966)],[.s (s5 4 1886611820),.s (s5 11 122618043001006431572687219)],[.s (s5 4 1886611820),.s (s5 19 2261903658058535744205936875630873591400986995)],[.s (s5 4 1886611820),.s (s5 6 121437607456361)],[.s (s5 4 1886611820),.s (s5 13 7956982234992646578836044149875)],[.s (s5 4 1886611820),.s (s5 13 8275754203313416711865239762035)],[.s (s5 4 1886611820),.s (s5 11 122651541423547657927947379)],[.s (s5 4 1886611820),.s (s5 11 125040764888893661906237794)],[.s (s5 4 1886611820),.s (s5 3 7630702)],[.s (s5 4 1886611820),.s (s5 7 32481125787004265)],[.s (s5 4 1886611820),.s (s5 3 6710889)],[.s (s5 4 1886611820),.s (s5 8 8101519867924934498)],[.s (s5 4 1886611820),.s (s5 7 31657557352151411)],[.s (s5 4 1886611820),.s (s5 4 1836020833)],[.s (s5 4 1886611820),.s (s5 4 1885630053)],[.s (s5 4 1886611820),.s (s5 3 7891302)],[.s (s5 4 1886611820),.s (s5 4 2020173417)],[.s (s5 4 1886611820),.s (s5 4 1886675310)],[.s (s5 4 1886611820),.s (s5 4 1886613360)],[.s (s5 4 1886611820),.s (s5 4 2020173422)],[.s (s5 4 1886611820),.s (s5 2 28794)],[.s (s5 4 1886611820),.s (s5 5 500069396323)],[.s (s5 4 1886611820),.s (s5 6 123619517017455)],[.s (s5 4 1886611820),.s (s5 16 154763657438445722016110534213293714799)],[.s (s5 4 1886611820),.s (s5 19 2596503303086219638716254741629954753688907119)],[.s (s5 4 1886611820),.s (s5 6 128038972042607)],[.s (s5 4 1886611820),.s (s5 2 15471)],[.s (s5 4 1886611820),.s (s5 3 7351663)],[.s (s5 4 1886611820),.s (s5 3 7234924)],[.s (s5 4 1886611820),.s (s5 10 531053184691079719776884)],[.s (s5 4 1886611820),.s (s5 13 7956982234992646598644298836322)],[.s (s5 4 1886611820),.s (s5 3 7759218)],[.s (s5 4 1886611820),.s (s5 12 33542201473859071681443489133)],[.s (s5 4 1886611820),.s (s5 11 131024224507261934500016993)],[.s (s5 4 1886611820),.s (s5 3 6845550)],[.s (s5 4 1886611820),.s (s5 10 493273875644262058848373)],[.s (s5 4 1886611820),.s (s5 3 7104878)],[.s (s5 4 1886611820),.s (s5 1 116)],[.s (s5 4 1886611820),.s (s5 5 435745158513)],[.s (s5 4 1886611820),.s (s5 3 7628140)],[.s (s5 4 1886611820),.s (s5 4 712271212)],[.s (s5 4 1886611820),.s (s5 4 1684959075)],[.s (s5 4 1886611820),.s (s5 3 6581857)],[.s (s5 4 1886611820),.s (s5 2 29295)],[.s (s5 4 1886611820),.s (s5 4 1953720684)],[.s (s5 4 1886611820),.s (s5 5 182342347116)],[.s (s5 4 1886611820),.s (s5 1 43)],[.s (s5 4 1886611820),.s (s5 1 42)],[.s (s5 4 1886611820),.s (s5 1 45)],[.s (s5 4 1886611820),.s (s5 1 47)],[.s (s5 4 1886611820),.s (s5 2 15676)],[.s (s5 4 1886611820),.s (s5 1 62)],[.s (s5 4 1886611820),.s (s5 2 15678)],[.s (s5 4 1886611820),.s (s5 6 110425311047777)],[.s (s5 4 1886611820),.s (s5 6 113711144920420)],[.s (s5 4 1886611820),.s (s5 8 8030590355653420388)],[.s (s5 4 1886611820),.s (s5 5 474416047460)],[.s (s5 4 1886611820),.s (s5 16 146793563287308389278137555690041144685)],[.s (s5 4 1886611820),.s (s5 6 120295396894052)],[.s (s5 4 1886611820),.s (s5 11 122651099442545230195420773)],[.s (s5 4 1886611820),.s (s5 9 1871439140975576245604)],[.s (s5 4 1886611820),.s (s5 8 7665812061680985444)],[.s (s5 4 1886611820),.s (s5 9 2240301953860894551657)],[.s (s5 4 1886611820),.s (s5 12 33249612810592795105945677417)],[.s (s5 4 1886611820),.s (s5 8 7810757299313993060)],[.s (s5 4 1886611820),.s (s5 4 1868852853)],[.s (s5 4 1886611820),.s (s5 11 122571058227094386601518436)],[.s (s5 4 1886611820),.s (s5 8 8532480098923079012)],[.s (s5 4 1886611820),.s (s5 12 35416027086437465716643226980)],[.s (s5 4 1886611820),.s (s5 5 465490374508)],[.s (s5 4 1886611820),.s (s5 7 28554735403623780)],[.s (s5 4 1886611820),.s (s5 5 431415719271)],[.s (s5 4 1886611820),.s (s5 7 28554821420279149)],[.s (s5 4 1886611820),.s (s5 9 1871368777699076565363)],[.s (s5 4 1886611820),.s (s5 4 1953719666)],[.s (s5 4 1886611820),.s (s5 6 111516181425765)],[.s (s5 4 1886611820),.s (s5 7 28548142445324644)],[.s (s5 4 1886611820),.s (s5 5 495874632040)],[.s (s5 4 1886611820),.s (s5 3 6648693)],[.s (s5 4 1886611820),.s (s5 6 127970520100457)],[.s (s5 4 1886611820),.s (s5 7 32780218652715383)],[.s (s5 4 1886611820),.s (s5 12 35713422837776953901583201650)],[.s (s5 4 1886611820),.s (s5 7 28556968888591730)],[.s (s5 4 1886611820),.s (s5 17 37579152221671205238173544792657207785844)],[.s (s5 4 1886611820),.s (s5 16 137483774621005110734058729535024820070)],[.s (s5 4 1886611820),.s (s5 6 125762639128940)],[.s (s5 4 1886611820),.s (s5 4 1835625573)],[.s (s5 4 1886611820),.s (s5 11 122571058513053206090969445)],[.s (s5 4 1886611820),.s (s5 10 478793197326582454054755)],[.s (s5 4 1886611820),.s (s5 10 479217114100642154964327)],[.s (s5 4 1886611820),.s (s5 9 2110959713842717749872)],[.s (s5 4 1886611820),.s (s5 8 8747795240677370227)],[.s (s5 4 1886611820),.s (s5 11 139566875009997741940237668)],[.s (s5 4 1886611820),.s (s5 9 1871941851990027560294)],[.s (s5 4 1886611820),.s (s5 14 2239892019062521052805444961985895)],[.s (s5 4 1886611820),.s (s5 11 122571058227641934735897193)],[.s (s5 4 1886611820),.s (s5 9 2037169923889335397993)]],.s (s5 0 0),.s (s5 0 0),.l [],.b false,.i .i64 0,.s (s5 0 0),.s (s5 0 0),.i .i64 0,.s (s5 0 0),.s (s5 0 0),.s (s5 0 0),.s (s5 0 0),.s (s5 0 0),.l [],.l []]:List G).getD i.1 (.b false)
def fn0:F:={ nm:=y0,ps:=[y1],cl:=1,gd:=.c (.sy y2),bo:=.call y3 [.v y1,.c (.sy y4),.c (.sy y2)],me:=zf0 }
def et0:Et:={ kd:=3,nm:=y0,pre:=V8,fns:=[fn0],post:=U8 }
def fn1:F:={ nm:=y5,ps:=[y1,y6],cl:=1,gd:=.c (.sy y2),bo:=.call y3 [.v y1,.call y3 [.v y6,.c (.sy y2),.c (.sy y4)],.c (.sy y2)],me:=zf0 }
def et1:Et:={ kd:=3,nm:=y5,pre:=V8,fns:=[fn1],post:=U8 }
def fn2:F:={ nm:=y7,ps:=[y1,y6],cl:=1,gd:=.c (.sy y2),bo:=.call y3 [.v y1,.call y3 [.v y6,.c (.sy y2),.c (.sy y4)],.call y3 [.v y6,.c (.sy y4),.c (.sy y2)]],me:=zf0 }
def et2:Et:={ kd:=3,nm:=y7,pre:=V8,fns:=[fn2],post:=U8 }
def fn3:F:={ nm:=y8,ps:=[y9],cl:=1,gd:=.c (.sy y2),bo:=.call y3 [.call y10 [.v y9,.c (.sy y2)],.c (.sy y2),.call y10 [.v y9,.c (.sy y4)]],me:=zf0 }
def et3:Et:={ kd:=3,nm:=y8,pre:=V8,fns:=[fn3],post:=U8 }
def fn4:F:={ nm:=y11,ps:=[y9],cl:=1,gd:=.c (.sy y2),bo:=.c (.sy y2),me:=zf0 }
def et4:Et:={ kd:=3,nm:=y11,pre:=V8,fns:=[fn4],post:=U8 }
def fn5:F:={ nm:=y12,ps:=[y9],cl:=1,gd:=.c (.sy y2),bo:=.call y0 [.call y13 [.v y9]],me:=zf0 }
def et5:Et:={ kd:=3,nm:=y12,pre:=V8,fns:=[fn5],post:=U8 }
def fn6:F:={ nm:=y14,ps:=[y9],cl:=1,gd:=.call y3 [.call y13 [.v y9],.call y13 [.v y9],.call y10 [.v y9,.c (.sy y4)]],bo:=.call y0 [.call y13 [.v y9]],me:=zf0 }
def et6:Et:={ kd:=3,nm:=y14,pre:=V8,fns:=[fn6],post:=U8 }
def fn7:F:={ nm:=y15,ps:=[y9],cl:=1,gd:=.c (.sy y2),bo:=.call y3 [.call y16 [.v y9],.v y9,.c (.num 0 1)],me:=zf0 }
def et7:Et:={ kd:=3,nm:=y15,pre:=V8,fns:=[fn7],post:=U8 }
def fn8:F:={ nm:=y17,ps:=[y9],cl:=1,gd:=.c (.sy y2),bo:=.call y3 [.call y18 [.v y9],.v y9,.c (.num 0 1)],me:=zf0 }
def et8:Et:={ kd:=3,nm:=y17,pre:=V8,fns:=[fn8],post:=U8 }
def fn9:F:={ nm:=y19,ps:=[y9],cl:=1,gd:=.c (.sy y2),bo:=.call y3 [.call y18 [.v y9],.call y0 [.call y20 [.v y9,.c (.num 0 1)]],.c (.sy y4)],me:=zf0 }
def et9:Et:={ kd:=3,nm:=y19,pre:=V8,fns:=[fn9],post:=U8 }
def g81:F:={ nm:=y21,ps:=[y9],cl:=1,gd:=.c (.sy y2),bo:=.call y3 [.call y18 [.v y9],.call y20 [.c (.num 0 1),.v y9],.c (.sy y4)],me:=zf0 }
def g8i:Et:={ kd:=3,nm:=y21,pre:=V8,fns:=[g81],post:=U8 }
def g82:F:={ nm:=y22,ps:=[y9],cl:=1,gd:=.c (.sy y2),bo:=.call y3 [.call y19 [.v y9],.v y9,.c (.num 0 1)],me:=zf0 }
def g8j:Et:={ kd:=3,nm:=y22,pre:=V8,fns:=[g82],post:=U8 }
def g83:F:={ nm:=y23,ps:=[y9],cl:=1,gd:=.call y19 [.v y9],bo:=.call y3 [.call y18 [.v y9],.call y0 [.call y20 [.c (.num 0 1),.v y9]],.c (.sy y2)],me:=zf0 }
def g8k:Et:={ kd:=3,nm:=y23,pre:=V8,fns:=[g83],post:=U8 }
def g84:F:={ nm:=y24,ps:=[y9],cl:=1,gd:=.c (.sy y2),bo:=.call y3 [.call y13 [.v y9],.call y25 [.c (.num 1 1),.call y25 [.call y24 [.call y26 [.v y9]],.call y24 [.call y27 [.v y9]]]],.c (.num 0 1)],me:=zf3 }
def g8l:Et:={ kd:=3,nm:=y24,pre:=V8,fns:=[g84],post:=U8 }
def g85:F:={ nm:=y28,ps:=[y9],cl:=1,gd:=.c (.sy y2),bo:=.call y0 [.call y13 [.v y9]],me:=zf0 }
def g8m:Et:={ kd:=3,nm:=y28,pre:=V8,fns:=[g85],post:=U8 }
def g86:F:={ nm:=y29,ps:=[y9],cl:=1,gd:=.c (.sy y2),bo:=.call y3 [.call y13 [.v y9],.call y26 [.call y26 [.v y9]],.c (.num 0 1)],me:=zf0 }
def g8n:Et:={ kd:=3,nm:=y29,pre:=V8,fns:=[g86],post:=U8 }
def g87:F:={ nm:=y30,ps:=[y9],cl:=1,gd:=.c (.sy y2),bo:=.call y3 [.call y13 [.v y9],.call y27 [.call y26 [.v y9]],.v y9],me:=zf0 }
def g8o:Et:={ kd:=3,nm:=y30,pre:=V8,fns:=[g87],post:=U8 }
def g88:F:={ nm:=y31,ps:=[y9],cl:=1,gd:=.c (.sy y2),bo:=.call y3 [.call y13 [.v y9],.call y27 [.v y9],.c (.num 0 1)],me:=zf0 }
def g8p:Et:={ kd:=3,nm:=y31,pre:=V8,fns:=[g88],post:=U8 }
def g89:F:={ nm:=y32,ps:=[y9,y33],cl:=1,gd:=.c (.sy y2),bo:=.call y3 [.call y28 [.v y9],.call y3 [.call y13 [.v y33],.c (.sy y2),.call y20 [.v y9,.v y33]],.call y3 [.call y28 [.v y33],.c (.sy y4),.call y3 [.call y0 [.call y10 [.call y29 [.v y9],.call y29 [.v y33]]],.call y32 [.call y29 [.v y9],.call y29 [.v y33]],.call y3 [.call y0 [.call y10 [.call y30 [.v y9],.call y30 [.v y33]]],.call y20 [.call y30 [.v y9],.call y30 [.v y33]],.call y3 [.c (.sy y2),.call y32 [.call y31 [.v y9],.call y31 [.v y33]],.c (.sy y4)]]]]],me:=zf3 }
def g8q:Et:={ kd:=3,nm:=y32,pre:=V8,fns:=[g89],post:=U8 }
def g9a:F:={ nm:=y34,ps:=[y9],cl:=1,gd:=.c (.sy y2),bo:=.call y3 [.call y28 [.v y9],.call y19 [.v y9],.call y3 [.call y13 [.call y26 [.v y9]],.call y3 [.call y34 [.call y29 [.v y9]],.call y3 [.call y0 [.call y10 [.call y29 [.v y9],.c (.num 0 1)]],.call y3 [.call y21 [.call y30 [.v y9]],.call y3 [.call y34 [.call y31 [.v y9]],.call y32 [.call y29 [.call y31 [.v y9]],.call y29 [.v y9]],.c (.sy y4)],.c (.sy y4)],.c (.sy y4)],.c (.sy y4)],.c (.sy y4)]],me:=zf3 }
def g8r:Et:={ kd:=3,nm:=y34,pre:=V8,fns:=[g9a],post:=U8 }
def g9b:F:={ nm:=y35,ps:=[y9],cl:=1,gd:=.c (.sy y2),bo:=.call y3 [.call y13 [.v y9],.call y25 [.c (.num 1 1),.call y35 [.call y27 [.v y9]]],.c (.num 0 1)],me:=zf3 }
def g8s:Et:={ kd:=3,nm:=y35,pre:=V8,fns:=[g9b],post:=U8 }
def g9c:F:={ nm:=y36,ps:=[y9],cl:=1,gd:=.c (.sy y2),bo:=.call y3 [.call y13 [.v y9],.call y36 [.call y27 [.v y9]],.call y10 [.v y9,.c (.sy y4)]],me:=zf3 }
def g8t:Et:={ kd:=3,nm:=y36,pre:=V8,fns:=[g9c],post:=U8 }
def g9d:F:={ nm:=y37,ps:=[y9,y33],cl:=1,gd:=.call y36 [.v y9],bo:=.call y3 [.call y13 [.v y9],.call y38 [.call y26 [.v y9],.call y37 [.call y27 [.v y9],.v y33]],.v y33],me:=zf3 }
def g8u:Et:={ kd:=3,nm:=y37,pre:=V8,fns:=[g9d],post:=U8 }
def g9e:F:={ nm:=y39,ps:=[y9],cl:=1,gd:=.c (.sy y2),bo:=.call y3 [.call y13 [.v y9],.call y37 [.call y39 [.call y27 [.v y9]],.call y38 [.call y26 [.v y9],.c (.sy y4)]],.c (.sy y4)],me:=zf3 }
def g8v:Et:={ kd:=3,nm:=y39,pre:=V8,fns:=[g9e],post:=U8 }
def g9f:F:={ nm:=y40,ps:=[y41,y9],cl:=1,gd:=.call y36 [.v y9],bo:=.call y3 [.call y13 [.v y9],.call y3 [.call y10 [.v y41,.call y26 [.v y9]],.v y9,.call y40 [.v y41,.call y27 [.v y9]]],.c (.sy y4)],me:=zf3 }
def g8w:Et:={ kd:=3,nm:=y40,pre:=V8,fns:=[g9f],post:=U8 }
def g9g:F:={ nm:=y42,ps:=[y43,y44],cl:=1,gd:=.c (.sy y2),bo:=.call y3 [.call y0 [.call y13 [.v y44]],.c (.sy y4),.call y3 [.call y3 [.call y13 [.call y26 [.v y44]],.call y10 [.v y43,.call y26 [.call y26 [.v y44]]],.c (.sy y4)],.call y26 [.v y44],.call y3 [.c (.sy y2),.call y42 [.v y43,.call y27 [.v y44]],.c (.sy y4)]]],me:=zf4 }
def g8x:Et:={ kd:=3,nm:=y42,pre:=V8,fns:=[g9g],post:=U8 }
def g9h:F:={ nm:=y45,ps:=[y46,y9],cl:=1,gd:=.call y3 [.call y19 [.v y46],.call y36 [.v y9],.c (.sy y4)],bo:=.call y3 [.call y23 [.v y46],.call y26 [.v y9],.call y45 [.call y25 [.c (.num (-1) 1),.v y46],.call y27 [.v y9]]],me:=zf5 }
def g8y:Et:={ kd:=3,nm:=y45,pre:=V8,fns:=[g9h],post:=U8 }
def g9i:F:={ nm:=y47,ps:=[y46,y48,y9],cl:=1,gd:=.call y3 [.call y19 [.v y46],.call y36 [.v y9],.c (.sy y4)],bo:=.call y3 [.call y23 [.v y46],.call y38 [.v y48,.call y27 [.v y9]],.call y38 [.call y26 [.v y9],.call y47 [.call y25 [.c (.num (-1) 1),.v y46],.v y48,.call y27 [.v y9]]]],me:=zf5 }
def g8z:Et:={ kd:=3,nm:=y47,pre:=V8,fns:=[g9i],post:=U8 }
def g80:Et:={ kd:=1,nm:=y49,pre:=zf6,fns:=[],post:=U8 }
def a3k:List Et:=[et0,et1,et2,et3,et4,et5,et6,et7,et8,et9,g8i,g8j,g8k,g8l,g8m,g8n,g8o,g8p,g8q,g8r,g8s,g8t,g8u,g8v,g8w,g8x,g8y,g8z,g80]
def O8:Wd:=⟨a3k,dE,dE⟩
def PL:List (List F):=O8.L
def ok (o:O):Prop:=o.size≤3000∧o.fm=true
theorem b8p {n:Int} {d:Nat} (h:(O.num n d).fm=true):(s4 n).length≤102∧(s8 d).length≤102:=by
 have h:=of_decide_eq_true h;obtain ⟨_,h1,h2⟩:=h;unfold L6 at h1 h2;rw [u2] at h1;rw [B3,Int.natAbs_natCast] at h2;have k1:=R5 n;have k2:=Z9 d;constructor <;> omega
theorem b0v:∀ {o:O},o.fm=true→o.sm
 | .num n d,h=>by have:=b8p h;exact ⟨oM,oM⟩
 | .sy s,h=>by
  change named s=true at h;unfold named V5 at h;simp only [Bool.and_eq_true,decide_eq_true_eq] at h;exact ⟨oM,oM⟩
 | .tx s,h=>by have h:s.length≤200:=of_decide_eq_true h;show s.length < 9000;omega
 | .co a d,h=>by
  change (a.fm && d.fm)=true at h;rw [Bool.and_eq_true] at h;exact ⟨b0v h.1,b0v h.2⟩
 | .no,h=>by cases h
theorem g4e {o:O} (h:o.fm=true):o.fx:=by
 have k0:(s4 0).length≤11:=M8 dE;have k1:(s8 1).length≤11:=by rw [← a2v];exact M8 dE
 cases o with
 | num n d=>have:=b8p h;exact ⟨show (s4 n).length < 2000 by omega,show (s8 d).length < 2000 by omega⟩
 | _=>exact ⟨show (s4 0).length < 2000 by omega,show (s8 1).length < 2000 by omega⟩
theorem d5e {o:O} (h:ok o):apV o=some (o,0):=by
 unfold apV;rw [if_pos (b0v h.2),if_pos (by rw [decide_eq_true h.1,h.2];rfl)]
theorem b85 (n:Int) (h:-1000000000 < n∧n < 1000000000):ok (.num n 1):=by
 refine ⟨by show 1≤3000;decide,decide_eq_true ⟨?_,?_,?_⟩⟩
 ·rw [O9,u2,B3];show (s4 (qn n 1).1,s8 (qn n 1).2)=_;rw [a9t]
 ·unfold L6;rw [u2];have:=X9 (n:=n.natAbs) (k:=9) oM;omega
 ·unfold L6;rw [B3,Int.natAbs_natCast];have:=X9 (n:=1) (k:=1) dE;omega
theorem e22:V5 B0=true:=by
 unfold V5;rw [a2s (i:=0) dE dE,a2s (i:=1) dE dE,a2s (i:=2) dE dE,a2s (i:=3) dE dE,c1e dE];decide
theorem b4w {s:u5} (h:1≤s.length∧s.length≤40):ok (.sy (B0,s)):=by
 refine ⟨by show 1≤3000;decide,?_⟩;show named _=true;unfold named;rw [e22,decide_eq_true h];rfl
theorem f5j:ok F6:=b4w dE
section
variable {L:List (List F)} {E:Prop} {env:M7} {l:Nat} {Q:O→Nat→Prop}
abbrev sLt:u5:=s5 1 60
end
end
end Go.Proofs.YtkojildpddaccaaGreatDoor
