/- The built-in world as typed data. -/
import Derived.Test.YtccafnaghnbpeaaGreatDoorCR7c
set_option linter.all false
namespace Go.Proofs.YtccafnaghnbpeaaGreatDoor
open Go.Abs LQ
set_option maxRecDepth 100000
set_option maxHeartbeats 4000000
noncomputable section
abbrev y0 : Sy := (lispS, (dec 3 7630702))
abbrev y1 : Sy := (lispS, (dec 1 112))
abbrev y2 : Sy := (lispS, (dec 1 116))
abbrev y3 : Sy := (lispS, (dec 2 26217))
abbrev y4 : Sy := (lispS, (dec 3 7104878))
def zf0 : Fin 11 → G := fun i => ([.i .i64 0, .s (dec 0 0), .s (dec 0 0), .i .i64 0, .s (dec 0 0), .s (dec 0 0), .s (dec 0 0), .s (dec 0 0), .s (dec 0 0), .l [], .l []] : List G).getD i.1 (.b false)
def zf1 : Fin 17 → G := fun i => ([.s (dec 0 0), .l [], .s (dec 0 0), .s (dec 0 0), .l [], .b false, .i .i64 0, .s (dec 0 0), .s (dec 0 0), .i .i64 0, .s (dec 0 0), .s (dec 0 0), .s (dec 0 0), .s (dec 0 0), .s (dec 0 0), .l [], .l []] : List G).getD i.1 (.b false)
def zf2 : Fin 11 → G := fun i => ([.l [], .l [], .l [], .s (dec 0 0), .s (dec 0 0), .l [], .l [], .l [], .l [], .s (dec 0 0), .i .u64 0] : List G).getD i.1 (.b false)
abbrev y5 : Sy := (lispS, (dec 7 32481125787004265))
abbrev y6 : Sy := (lispS, (dec 1 113))
abbrev y7 : Sy := (lispS, (dec 3 6710889))
abbrev y8 : Sy := (lispS, (dec 8 8101519867924934498))
abbrev y9 : Sy := (lispS, (dec 1 120))
abbrev y10 : Sy := (lispS, (dec 5 465491554661))
abbrev y11 : Sy := (lispS, (dec 7 31657557352151411))
abbrev y12 : Sy := (lispS, (dec 4 1836020833))
abbrev y13 : Sy := (lispS, (dec 5 482972954467))
abbrev y14 : Sy := (lispS, (dec 4 1885630053))
abbrev y15 : Sy := (lispS, (dec 3 7891302))
abbrev y16 : Sy := (lispS, (dec 9 2073844980909096591730))
abbrev y17 : Sy := (lispS, (dec 4 2020173417))
abbrev y18 : Sy := (lispS, (dec 8 8102650174351109737))
abbrev y19 : Sy := (lispS, (dec 4 1886675310))
abbrev y20 : Sy := (lispS, (dec 1 60))
abbrev y21 : Sy := (lispS, (dec 4 1886613360))
abbrev y22 : Sy := (lispS, (dec 4 2020173422))
abbrev y23 : Sy := (lispS, (dec 2 28794))
abbrev y24 : Sy := (lispS, (dec 5 500069396323))
abbrev y25 : Sy := (lispS, (dec 8 3111276449750739298))
abbrev y26 : Sy := (lispS, (dec 3 7496035))
abbrev y27 : Sy := (lispS, (dec 3 7496803))
def zf3 : Fin 11 → G := fun i => ([.i .i64 3, .s (dec 4 1886611820), .s (dec 5 500069396323), .i .i64 0, .s (dec 0 0), .s (dec 0 0), .s (dec 0 0), .s (dec 0 0), .s (dec 0 0), .l [], .l [[.i .i64 1, .s (dec 4 1886611820), .s (dec 1 120), .i .i64 0, .s (dec 0 0), .s (dec 0 0), .s (dec 0 0), .s (dec 0 0), .s (dec 0 0), .l [], .l []]]] : List G).getD i.1 (.b false)
abbrev y28 : Sy := (lispS, (dec 6 123619517017455))
abbrev y29 : Sy := (lispS, (dec 16 154763657438445722016110534213293714799))
abbrev y30 : Sy := (lispS, (dec 19 2596503303086219638716254741629954753688907119))
abbrev y31 : Sy := (lispS, (dec 6 128038972042607))
abbrev y32 : Sy := (lispS, (dec 2 15471))
abbrev y33 : Sy := (lispS, (dec 1 121))
abbrev y34 : Sy := (lispS, (dec 3 7351663))
abbrev y35 : Sy := (lispS, (dec 3 7234924))
abbrev y36 : Sy := (lispS, (dec 10 531053184691079719776884))
abbrev y37 : Sy := (lispS, (dec 13 7956982234992646598644298836322))
abbrev y38 : Sy := (lispS, (dec 4 1936617315))
abbrev y39 : Sy := (lispS, (dec 3 7759218))
abbrev y40 : Sy := (lispS, (dec 12 33542201473859071681443489133))
abbrev y41 : Sy := (lispS, (dec 1 101))
abbrev y42 : Sy := (lispS, (dec 11 131024224507261934500016993))
abbrev y43 : Sy := (lispS, (dec 1 107))
abbrev y44 : Sy := (lispS, (dec 1 97))
def zf4 : Fin 11 → G := fun i => ([.i .i64 3, .s (dec 4 1886611820), .s (dec 5 500069396323), .i .i64 0, .s (dec 0 0), .s (dec 0 0), .s (dec 0 0), .s (dec 0 0), .s (dec 0 0), .l [], .l [[.i .i64 1, .s (dec 4 1886611820), .s (dec 1 97), .i .i64 0, .s (dec 0 0), .s (dec 0 0), .s (dec 0 0), .s (dec 0 0), .s (dec 0 0), .l [], .l []]]] : List G).getD i.1 (.b false)
abbrev y45 : Sy := (lispS, (dec 3 6845550))
abbrev y46 : Sy := (lispS, (dec 1 110))
def zf5 : Fin 11 → G := fun i => ([.i .i64 3, .s (dec 4 1886611820), .s (dec 4 2020173422), .i .i64 0, .s (dec 0 0), .s (dec 0 0), .s (dec 0 0), .s (dec 0 0), .s (dec 0 0), .l [], .l [[.i .i64 1, .s (dec 4 1886611820), .s (dec 1 110), .i .i64 0, .s (dec 0 0), .s (dec 0 0), .s (dec 0 0), .s (dec 0 0), .s (dec 0 0), .l [], .l []]]] : List G).getD i.1 (.b false)
abbrev y47 : Sy := (lispS, (dec 10 493273875644262058848373))
abbrev y48 : Sy := (lispS, (dec 1 118))
abbrev y49 : Sy := (lispS, (dec 12 31382965401887741211696264053))
def zf6 : Fin 17 → G := fun i => ([.s (dec 4 1919251317), .l [[.s (dec 4 1886611820), .s (dec 2 26217)], [.s (dec 4 1886611820), .s (dec 5 465491554661)], [.s (dec 4 1886611820), .s (dec 4 1936617315)], [.s (dec 4 1886611820), .s (dec 3 7496035)], [.s (dec 4 1886611820), .s (dec 3 7496803)], [.s (dec 4 1886611820), .s (dec 5 482972954467)], [.s (dec 4 1886611820), .s (dec 7 31644423040104819)], [.s (dec 4 1886611820), .s (dec 7 31638921304765555)], [.s (dec 4 1886611820), .s (dec 9 2073844980909096591730)], [.s (dec 4 1886611820), .s (dec 8 8102650174351109737)], [.s (dec 4 1886611820), .s (dec 8 3111276449750739298)], [.s (dec 4 1886611820), .s (dec 8 3039218855712811362)], [.s (dec 4 1886611820), .s (dec 7 12716373585260149)], [.s (dec 4 1886611820), .s (dec 7 13279323538681461)], [.s (dec 4 1886611820), .s (dec 1 60)], [.s (dec 4 1886611820), .s (dec 9 2110959975582353159534)], [.s (dec 4 1886611820), .s (dec 11 138343872958643594702251364)], [.s (dec 4 1886611820), .s (dec 5 491495844966)], [.s (dec 4 1886611820), .s (dec 11 122618043001006431572687219)], [.s (dec 4 1886611820), .s (dec 19 2261903658058535744205936875630873591400986995)], [.s (dec 4 1886611820), .s (dec 6 121437607456361)], [.s (dec 4 1886611820), .s (dec 13 7956982234992646578836044149875)], [.s (dec 4 1886611820), .s (dec 13 8275754203313416711865239762035)], [.s (dec 4 1886611820), .s (dec 11 122651541423547657927947379)], [.s (dec 4 1886611820), .s (dec 11 125040764888893661906237794)], [.s (dec 4 1886611820), .s (dec 3 7630702)], [.s (dec 4 1886611820), .s (dec 7 32481125787004265)], [.s (dec 4 1886611820), .s (dec 3 6710889)], [.s (dec 4 1886611820), .s (dec 8 8101519867924934498)], [.s (dec 4 1886611820), .s (dec 7 31657557352151411)], [.s (dec 4 1886611820), .s (dec 4 1836020833)], [.s (dec 4 1886611820), .s (dec 4 1885630053)], [.s (dec 4 1886611820), .s (dec 3 7891302)], [.s (dec 4 1886611820), .s (dec 4 2020173417)], [.s (dec 4 1886611820), .s (dec 4 1886675310)], [.s (dec 4 1886611820), .s (dec 4 1886613360)], [.s (dec 4 1886611820), .s (dec 4 2020173422)], [.s (dec 4 1886611820), .s (dec 2 28794)], [.s (dec 4 1886611820), .s (dec 5 500069396323)], [.s (dec 4 1886611820), .s (dec 6 123619517017455)], [.s (dec 4 1886611820), .s (dec 16 154763657438445722016110534213293714799)], [.s (dec 4 1886611820), .s (dec 19 2596503303086219638716254741629954753688907119)], [.s (dec 4 1886611820), .s (dec 6 128038972042607)], [.s (dec 4 1886611820), .s (dec 2 15471)], [.s (dec 4 1886611820), .s (dec 3 7351663)], [.s (dec 4 1886611820), .s (dec 3 7234924)], [.s (dec 4 1886611820), .s (dec 10 531053184691079719776884)], [.s (dec 4 1886611820), .s (dec 13 7956982234992646598644298836322)], [.s (dec 4 1886611820), .s (dec 3 7759218)], [.s (dec 4 1886611820), .s (dec 12 33542201473859071681443489133)], [.s (dec 4 1886611820), .s (dec 11 131024224507261934500016993)], [.s (dec 4 1886611820), .s (dec 3 6845550)], [.s (dec 4 1886611820), .s (dec 10 493273875644262058848373)], [.s (dec 4 1886611820), .s (dec 3 7104878)], [.s (dec 4 1886611820), .s (dec 1 116)], [.s (dec 4 1886611820), .s (dec 5 435745158513)], [.s (dec 4 1886611820), .s (dec 3 7628140)], [.s (dec 4 1886611820), .s (dec 4 712271212)], [.s (dec 4 1886611820), .s (dec 4 1684959075)], [.s (dec 4 1886611820), .s (dec 3 6581857)], [.s (dec 4 1886611820), .s (dec 2 29295)], [.s (dec 4 1886611820), .s (dec 4 1953720684)], [.s (dec 4 1886611820), .s (dec 5 182342347116)], [.s (dec 4 1886611820), .s (dec 1 43)], [.s (dec 4 1886611820), .s (dec 1 42)], [.s (dec 4 1886611820), .s (dec 1 45)], [.s (dec 4 1886611820), .s (dec 1 47)], [.s (dec 4 1886611820), .s (dec 2 15676)], [.s (dec 4 1886611820), .s (dec 1 62)], [.s (dec 4 1886611820), .s (dec 2 15678)], [.s (dec 4 1886611820), .s (dec 6 110425311047777)], [.s (dec 4 1886611820), .s (dec 6 113711144920420)], [.s (dec 4 1886611820), .s (dec 8 8030590355653420388)], [.s (dec 4 1886611820), .s (dec 5 474416047460)], [.s (dec 4 1886611820), .s (dec 16 146793563287308389278137555690041144685)], [.s (dec 4 1886611820), .s (dec 6 120295396894052)], [.s (dec 4 1886611820), .s (dec 11 122651099442545230195420773)], [.s (dec 4 1886611820), .s (dec 9 1871439140975576245604)], [.s (dec 4 1886611820), .s (dec 8 7665812061680985444)], [.s (dec 4 1886611820), .s (dec 9 2240301953860894551657)], [.s (dec 4 1886611820), .s (dec 12 33249612810592795105945677417)], [.s (dec 4 1886611820), .s (dec 8 7810757299313993060)], [.s (dec 4 1886611820), .s (dec 4 1868852853)], [.s (dec 4 1886611820), .s (dec 11 122571058227094386601518436)], [.s (dec 4 1886611820), .s (dec 8 8532480098923079012)], [.s (dec 4 1886611820), .s (dec 12 35416027086437465716643226980)], [.s (dec 4 1886611820), .s (dec 5 465490374508)], [.s (dec 4 1886611820), .s (dec 7 28554735403623780)], [.s (dec 4 1886611820), .s (dec 5 431415719271)], [.s (dec 4 1886611820), .s (dec 7 28554821420279149)], [.s (dec 4 1886611820), .s (dec 9 1871368777699076565363)], [.s (dec 4 1886611820), .s (dec 4 1953719666)], [.s (dec 4 1886611820), .s (dec 6 111516181425765)], [.s (dec 4 1886611820), .s (dec 7 28548142445324644)], [.s (dec 4 1886611820), .s (dec 5 495874632040)], [.s (dec 4 1886611820), .s (dec 3 6648693)], [.s (dec 4 1886611820), .s (dec 6 127970520100457)], [.s (dec 4 1886611820), .s (dec 7 32780218652715383)], [.s (dec 4 1886611820), .s (dec 12 35713422837776953901583201650)], [.s (dec 4 1886611820), .s (dec 7 28556968888591730)], [.s (dec 4 1886611820), .s (dec 17 37579152221671205238173544792657207785844)], [.s (dec 4 1886611820), .s (dec 16 137483774621005110734058729535024820070)], [.s (dec 4 1886611820), .s (dec 6 125762639128940)], [.s (dec 4 1886611820), .s (dec 4 1835625573)], [.s (dec 4 1886611820), .s (dec 11 122571058513053206090969445)], [.s (dec 4 1886611820), .s (dec 10 478793197326582454054755)], [.s (dec 4 1886611820), .s (dec 10 479217114100642154964327)], [.s (dec 4 1886611820), .s (dec 9 2110959713842717749872)], [.s (dec 4 1886611820), .s (dec 8 8747795240677370227)], [.s (dec 4 1886611820), .s (dec 11 139566875009997741940237668)], [.s (dec 4 1886611820), .s (dec 9 1871941851990027560294)], [.s (dec 4 1886611820), .s (dec 14 2239892019062521052805444961985895)], [.s (dec 4 1886611820), .s (dec 11 122571058227641934735897193)], [.s (dec 4 1886611820), .s (dec 9 2037169923889335397993)]], .s (dec 0 0), .s (dec 0 0), .l [], .b false, .i .i64 0, .s (dec 0 0), .s (dec 0 0), .i .i64 0, .s (dec 0 0), .s (dec 0 0), .s (dec 0 0), .s (dec 0 0), .s (dec 0 0), .l [], .l []] : List G).getD i.1 (.b false)
def fn0 : F := { nm := y0, ps := [y1], cl := 1, gd := .c (.sy y2), bo := .call y3 [.v y1, .c (.sy y4), .c (.sy y2)], me := zf0 }
def et0 : Et := { kd := 3, nm := y0, pre := zf1, fns := [fn0], post := zf2 }
def fn1 : F := { nm := y5, ps := [y1, y6], cl := 1, gd := .c (.sy y2), bo := .call y3 [.v y1, .call y3 [.v y6, .c (.sy y2), .c (.sy y4)], .c (.sy y2)], me := zf0 }
def et1 : Et := { kd := 3, nm := y5, pre := zf1, fns := [fn1], post := zf2 }
def fn2 : F := { nm := y7, ps := [y1, y6], cl := 1, gd := .c (.sy y2), bo := .call y3 [.v y1, .call y3 [.v y6, .c (.sy y2), .c (.sy y4)], .call y3 [.v y6, .c (.sy y4), .c (.sy y2)]], me := zf0 }
def et2 : Et := { kd := 3, nm := y7, pre := zf1, fns := [fn2], post := zf2 }
def fn3 : F := { nm := y8, ps := [y9], cl := 1, gd := .c (.sy y2), bo := .call y3 [.call y10 [.v y9, .c (.sy y2)], .c (.sy y2), .call y10 [.v y9, .c (.sy y4)]], me := zf0 }
def et3 : Et := { kd := 3, nm := y8, pre := zf1, fns := [fn3], post := zf2 }
def fn4 : F := { nm := y11, ps := [y9], cl := 1, gd := .c (.sy y2), bo := .c (.sy y2), me := zf0 }
def et4 : Et := { kd := 3, nm := y11, pre := zf1, fns := [fn4], post := zf2 }
def fn5 : F := { nm := y12, ps := [y9], cl := 1, gd := .c (.sy y2), bo := .call y0 [.call y13 [.v y9]], me := zf0 }
def et5 : Et := { kd := 3, nm := y12, pre := zf1, fns := [fn5], post := zf2 }
def fn6 : F := { nm := y14, ps := [y9], cl := 1, gd := .call y3 [.call y13 [.v y9], .call y13 [.v y9], .call y10 [.v y9, .c (.sy y4)]], bo := .call y0 [.call y13 [.v y9]], me := zf0 }
def et6 : Et := { kd := 3, nm := y14, pre := zf1, fns := [fn6], post := zf2 }
def fn7 : F := { nm := y15, ps := [y9], cl := 1, gd := .c (.sy y2), bo := .call y3 [.call y16 [.v y9], .v y9, .c (.num 0 1)], me := zf0 }
def et7 : Et := { kd := 3, nm := y15, pre := zf1, fns := [fn7], post := zf2 }
def fn8 : F := { nm := y17, ps := [y9], cl := 1, gd := .c (.sy y2), bo := .call y3 [.call y18 [.v y9], .v y9, .c (.num 0 1)], me := zf0 }
def et8 : Et := { kd := 3, nm := y17, pre := zf1, fns := [fn8], post := zf2 }
def fn9 : F := { nm := y19, ps := [y9], cl := 1, gd := .c (.sy y2), bo := .call y3 [.call y18 [.v y9], .call y0 [.call y20 [.v y9, .c (.num 0 1)]], .c (.sy y4)], me := zf0 }
def et9 : Et := { kd := 3, nm := y19, pre := zf1, fns := [fn9], post := zf2 }
def fn10 : F := { nm := y21, ps := [y9], cl := 1, gd := .c (.sy y2), bo := .call y3 [.call y18 [.v y9], .call y20 [.c (.num 0 1), .v y9], .c (.sy y4)], me := zf0 }
def et10 : Et := { kd := 3, nm := y21, pre := zf1, fns := [fn10], post := zf2 }
def fn11 : F := { nm := y22, ps := [y9], cl := 1, gd := .c (.sy y2), bo := .call y3 [.call y19 [.v y9], .v y9, .c (.num 0 1)], me := zf0 }
def et11 : Et := { kd := 3, nm := y22, pre := zf1, fns := [fn11], post := zf2 }
def fn12 : F := { nm := y23, ps := [y9], cl := 1, gd := .call y19 [.v y9], bo := .call y3 [.call y18 [.v y9], .call y0 [.call y20 [.c (.num 0 1), .v y9]], .c (.sy y2)], me := zf0 }
def et12 : Et := { kd := 3, nm := y23, pre := zf1, fns := [fn12], post := zf2 }
def fn13 : F := { nm := y24, ps := [y9], cl := 1, gd := .c (.sy y2), bo := .call y3 [.call y13 [.v y9], .call y25 [.c (.num 1 1), .call y25 [.call y24 [.call y26 [.v y9]], .call y24 [.call y27 [.v y9]]]], .c (.num 0 1)], me := zf3 }
def et13 : Et := { kd := 3, nm := y24, pre := zf1, fns := [fn13], post := zf2 }
def fn14 : F := { nm := y28, ps := [y9], cl := 1, gd := .c (.sy y2), bo := .call y0 [.call y13 [.v y9]], me := zf0 }
def et14 : Et := { kd := 3, nm := y28, pre := zf1, fns := [fn14], post := zf2 }
def fn15 : F := { nm := y29, ps := [y9], cl := 1, gd := .c (.sy y2), bo := .call y3 [.call y13 [.v y9], .call y26 [.call y26 [.v y9]], .c (.num 0 1)], me := zf0 }
def et15 : Et := { kd := 3, nm := y29, pre := zf1, fns := [fn15], post := zf2 }
def fn16 : F := { nm := y30, ps := [y9], cl := 1, gd := .c (.sy y2), bo := .call y3 [.call y13 [.v y9], .call y27 [.call y26 [.v y9]], .v y9], me := zf0 }
def et16 : Et := { kd := 3, nm := y30, pre := zf1, fns := [fn16], post := zf2 }
def fn17 : F := { nm := y31, ps := [y9], cl := 1, gd := .c (.sy y2), bo := .call y3 [.call y13 [.v y9], .call y27 [.v y9], .c (.num 0 1)], me := zf0 }
def et17 : Et := { kd := 3, nm := y31, pre := zf1, fns := [fn17], post := zf2 }
def fn18 : F := { nm := y32, ps := [y9, y33], cl := 1, gd := .c (.sy y2), bo := .call y3 [.call y28 [.v y9], .call y3 [.call y13 [.v y33], .c (.sy y2), .call y20 [.v y9, .v y33]], .call y3 [.call y28 [.v y33], .c (.sy y4), .call y3 [.call y0 [.call y10 [.call y29 [.v y9], .call y29 [.v y33]]], .call y32 [.call y29 [.v y9], .call y29 [.v y33]], .call y3 [.call y0 [.call y10 [.call y30 [.v y9], .call y30 [.v y33]]], .call y20 [.call y30 [.v y9], .call y30 [.v y33]], .call y3 [.c (.sy y2), .call y32 [.call y31 [.v y9], .call y31 [.v y33]], .c (.sy y4)]]]]], me := zf3 }
def et18 : Et := { kd := 3, nm := y32, pre := zf1, fns := [fn18], post := zf2 }
def fn19 : F := { nm := y34, ps := [y9], cl := 1, gd := .c (.sy y2), bo := .call y3 [.call y28 [.v y9], .call y19 [.v y9], .call y3 [.call y13 [.call y26 [.v y9]], .call y3 [.call y34 [.call y29 [.v y9]], .call y3 [.call y0 [.call y10 [.call y29 [.v y9], .c (.num 0 1)]], .call y3 [.call y21 [.call y30 [.v y9]], .call y3 [.call y34 [.call y31 [.v y9]], .call y32 [.call y29 [.call y31 [.v y9]], .call y29 [.v y9]], .c (.sy y4)], .c (.sy y4)], .c (.sy y4)], .c (.sy y4)], .c (.sy y4)]], me := zf3 }
def et19 : Et := { kd := 3, nm := y34, pre := zf1, fns := [fn19], post := zf2 }
def fn20 : F := { nm := y35, ps := [y9], cl := 1, gd := .c (.sy y2), bo := .call y3 [.call y13 [.v y9], .call y25 [.c (.num 1 1), .call y35 [.call y27 [.v y9]]], .c (.num 0 1)], me := zf3 }
def et20 : Et := { kd := 3, nm := y35, pre := zf1, fns := [fn20], post := zf2 }
def fn21 : F := { nm := y36, ps := [y9], cl := 1, gd := .c (.sy y2), bo := .call y3 [.call y13 [.v y9], .call y36 [.call y27 [.v y9]], .call y10 [.v y9, .c (.sy y4)]], me := zf3 }
def et21 : Et := { kd := 3, nm := y36, pre := zf1, fns := [fn21], post := zf2 }
def fn22 : F := { nm := y37, ps := [y9, y33], cl := 1, gd := .call y36 [.v y9], bo := .call y3 [.call y13 [.v y9], .call y38 [.call y26 [.v y9], .call y37 [.call y27 [.v y9], .v y33]], .v y33], me := zf3 }
def et22 : Et := { kd := 3, nm := y37, pre := zf1, fns := [fn22], post := zf2 }
def fn23 : F := { nm := y39, ps := [y9], cl := 1, gd := .c (.sy y2), bo := .call y3 [.call y13 [.v y9], .call y37 [.call y39 [.call y27 [.v y9]], .call y38 [.call y26 [.v y9], .c (.sy y4)]], .c (.sy y4)], me := zf3 }
def et23 : Et := { kd := 3, nm := y39, pre := zf1, fns := [fn23], post := zf2 }
def fn24 : F := { nm := y40, ps := [y41, y9], cl := 1, gd := .call y36 [.v y9], bo := .call y3 [.call y13 [.v y9], .call y3 [.call y10 [.v y41, .call y26 [.v y9]], .v y9, .call y40 [.v y41, .call y27 [.v y9]]], .c (.sy y4)], me := zf3 }
def et24 : Et := { kd := 3, nm := y40, pre := zf1, fns := [fn24], post := zf2 }
def fn25 : F := { nm := y42, ps := [y43, y44], cl := 1, gd := .c (.sy y2), bo := .call y3 [.call y0 [.call y13 [.v y44]], .c (.sy y4), .call y3 [.call y3 [.call y13 [.call y26 [.v y44]], .call y10 [.v y43, .call y26 [.call y26 [.v y44]]], .c (.sy y4)], .call y26 [.v y44], .call y3 [.c (.sy y2), .call y42 [.v y43, .call y27 [.v y44]], .c (.sy y4)]]], me := zf4 }
def et25 : Et := { kd := 3, nm := y42, pre := zf1, fns := [fn25], post := zf2 }
def fn26 : F := { nm := y45, ps := [y46, y9], cl := 1, gd := .call y3 [.call y19 [.v y46], .call y36 [.v y9], .c (.sy y4)], bo := .call y3 [.call y23 [.v y46], .call y26 [.v y9], .call y45 [.call y25 [.c (.num (-1) 1), .v y46], .call y27 [.v y9]]], me := zf5 }
def et26 : Et := { kd := 3, nm := y45, pre := zf1, fns := [fn26], post := zf2 }
def fn27 : F := { nm := y47, ps := [y46, y48, y9], cl := 1, gd := .call y3 [.call y19 [.v y46], .call y36 [.v y9], .c (.sy y4)], bo := .call y3 [.call y23 [.v y46], .call y38 [.v y48, .call y27 [.v y9]], .call y38 [.call y26 [.v y9], .call y47 [.call y25 [.c (.num (-1) 1), .v y46], .v y48, .call y27 [.v y9]]]], me := zf5 }
def et27 : Et := { kd := 3, nm := y47, pre := zf1, fns := [fn27], post := zf2 }
def et28 : Et := { kd := 1, nm := y49, pre := zf6, fns := [], post := zf2 }
def preW : List Et := [et0, et1, et2, et3, et4, et5, et6, et7, et8, et9, et10, et11, et12, et13, et14, et15, et16, et17, et18, et19, et20, et21, et22, et23, et24, et25, et26, et27, et28]
def preWd : Wd := ⟨preW, by decide, by decide⟩
def PL : List (List F) := preWd.L
theorem fnd0 : fnd PL fn0.nm = some fn0 := rfl
theorem fnd9 : fnd PL fn9.nm = some fn9 := rfl
theorem fnd10 : fnd PL fn10.nm = some fn10 := rfl
theorem fnd12 : fnd PL fn12.nm = some fn12 := rfl
theorem fnd13 : fnd PL fn13.nm = some fn13 := rfl
theorem fnd14 : fnd PL fn14.nm = some fn14 := rfl
theorem fnd15 : fnd PL fn15.nm = some fn15 := rfl
theorem fnd16 : fnd PL fn16.nm = some fn16 := rfl
theorem fnd17 : fnd PL fn17.nm = some fn17 := rfl
theorem fnd18 : fnd PL fn18.nm = some fn18 := rfl
theorem fnd19 : fnd PL fn19.nm = some fn19 := rfl
theorem fnd20 : fnd PL fn20.nm = some fn20 := rfl
theorem fnd22 : fnd PL fn22.nm = some fn22 := rfl
theorem fnd23 : fnd PL fn23.nm = some fn23 := rfl
theorem fnd24 : fnd PL fn24.nm = some fn24 := rfl
theorem fnd26 : fnd PL fn26.nm = some fn26 := rfl
theorem fnd27 : fnd PL fn27.nm = some fn27 := rfl
end
end Go.Proofs.YtccafnaghnbpeaaGreatDoor
