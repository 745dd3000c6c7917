/- Texts made of pieces. -/
import Derived.Test.YtffaodopiifbkaaGreatDoorCRA
import Derived.Test.YtffaodopiifbkaaGreatDoorCEA
import Derived.Test.YtffaodopiifbkaaGreatDoorCTC
import Derived.Test.YtffaodopiifbkaaGreatDoorCN
set_option linter.all false
namespace Go.Proofs.YtffaodopiifbkaaGreatDoor
open Go.Abs LQ
set_option maxRecDepth 100000
set_option maxHeartbeats 4000000
noncomputable section
theorem sfCat1 {U:CombU} {P:VRes→List Bx→Prop} {x y:List UInt8} {l c1 c2:Nat} {K:Nat→Om} (h1:l=x.length) (e1:c1=code x) (e2:c2=code y) (k:Sat U (K (code (x ++ y))) P):Sat U (U.fN (U.sCat l c1 c2) K) P:=fun e=>by
 subst h1 e1 e2
 have:=k e
 subst e
 rw [CUfN]
 show ∃ v bs,K (sCat x.length (code x) (code y))=some (v,bs)∧P v bs
 rw [sCat_code];exact this
def pieceL:List Str:=[[40],[41],[39],[32],[46],[97],[49,50],[45,51],[49,47,50],[48,47,53],[49,47,48],[34],[120,32,121],[124],[108,105,115,112,58,58],[117,115,101,114,58,58],[58,58],[58],[59],[10],[35,124],[124,35],[35],[92],[45],[48,48,55],[99,97,114],[9],[195,169],[0]]
def pieceT:Tre Q:=(.node (.str 1 40) (.node (.str 1 41) (.node (.str 1 32) (.node (.str 2 13101) (.node (.str 6 64022701765493) .nil .nil) (.node (.str 1 92) .nil .nil)) (.node (.str 1 34) (.node (.str 1 10) .nil .nil) (.node (.str 1 9) .nil .nil))) (.node (.str 1 97) (.node (.str 3 3485488) (.node (.str 1 58) .nil .nil) (.node (.str 3 3616816) .nil .nil)) (.node (.str 1 124) (.node (.str 2 9084) .nil .nil) (.node (.str 1 0) .nil .nil)))) (.node (.str 1 39) (.node (.str 1 46) (.node (.str 3 3288881) (.node (.str 2 14906) .nil .nil) (.node (.str 1 45) .nil .nil)) (.node (.str 3 7938168) (.node (.str 2 31779) .nil .nil) (.node (.str 2 43459) .nil .nil))) (.node (.str 2 12849) (.node (.str 3 3157809) (.node (.str 1 59) .nil .nil) (.node (.str 3 7496035) .nil .nil)) (.node (.str 6 64022669125996) (.node (.str 1 35) .nil .nil) .nil))))
def strG (s:Str):List G:=[.s s]
def intG1 (n:Int):List G:=[.i .i64 n]
theorem piece_at:∀ i,i < 30→tQ pieceT i=.str (pieceL.getD i []).length (code (pieceL.getD i []))
 | 0,_=>rfl
 | 1,_=>rfl
 | 2,_=>rfl
 | 3,_=>rfl
 | 4,_=>rfl
 | 5,_=>rfl
 | 6,_=>rfl
 | 7,_=>rfl
 | 8,_=>rfl
 | 9,_=>rfl
 | 10,_=>rfl
 | 11,_=>rfl
 | 12,_=>rfl
 | 13,_=>rfl
 | 14,_=>rfl
 | 15,_=>rfl
 | 16,_=>rfl
 | 17,_=>rfl
 | 18,_=>rfl
 | 19,_=>rfl
 | 20,_=>rfl
 | 21,_=>rfl
 | 22,_=>rfl
 | 23,_=>rfl
 | 24,_=>rfl
 | 25,_=>rfl
 | 26,_=>rfl
 | 27,_=>rfl
 | 28,_=>rfl
 | 29,_=>rfl
 | n+30,h=>absurd h (by omega)
theorem piece_rws:Rws 1 (pieceL.map strG) pieceT 0:=.of fun j r h=>by
 have hj:j < 30:=by
  have:=(List.getElem?_eq_some_iff.1 h).1
  simpa [pieceL] using this
 have e:r=strG (pieceL.getD j []):=by
  rw [List.getElem?_map] at h
  have hl:j < pieceL.length:=hj
  rw [List.getElem?_eq_getElem hl] at h
  simp only [Option.map_some,Option.some.injEq] at h
  rw [← h,List.getD_eq_getElem?_getD,List.getElem?_eq_getElem hl];rfl
 subst e
 rw [Nat.zero_add,piece_at j hj]
 refine ⟨rfl,?_,fun g h=>?_⟩
 ·exact .cons _ _ _ _ (.s _ _ _ rfl rfl) (.nil _ _)
 ·injection h with h _;subst h;exact .s _ _ _ rfl rfl
def pieceS (n:Int):Str:=pieceL.getD (n % 30).toNat []
def piecesS (l:List Int):Str:=(l.map pieceS).flatten
theorem pieceL_len:∀ s ∈ pieceL,s.length≤6:=by decide
theorem pieceS_len (n:Int):(pieceS n).length≤6:=by
 unfold pieceS
 rw [List.getD_eq_getElem?_getD]
 cases h:pieceL[(n % 30).toNat]? with
 | none=>simp
 | some s=>exact pieceL_len s (List.mem_of_getElem? h)
theorem piecesS_len:∀ l:List Int,(piecesS l).length≤6 * l.length
 | []=>by simp [piecesS]
 | n :: l=>by
  have h1:=piecesS_len l
  have h2:=pieceS_len n
  unfold piecesS at *
  simp only [List.map_cons,List.flatten_cons,List.length_append,List.length_cons];omega
theorem piecesS_snoc (l:List Int) (n:Int):piecesS (l ++ [n])=piecesS l ++ pieceS n:=by simp [piecesS]
theorem mapint_inj:∀ {l m:List Int},l.map intG1=m.map intG1→l=m
 | [],[],_=>rfl
 | [],_ :: _,h=>by simp at h
 | _ :: _,[],h=>by simp at h
 | a :: l,b :: m,h=>by simp only [List.map_cons,List.cons.injEq,intG1,G.i.injEq,true_and,and_true] at h;rw [h.1,mapint_inj h.2]
def spPieces:Sp where
 ι:={ l:List Int // l.length≤100 }
 A l:=[.sl 1 (l.1.map intG1)]
 B _:=[]
 R l:=.ret (.c (.s (piecesS l.1)))
 B' _:=[]
 inj i j vs bs h k _ _:=by
  obtain ⟨_,_,h1,k1,h,k⟩:=h.two k
  rw [mapint_inj (h1.sl_inj k1)];exact ⟨rfl,rfl⟩
theorem kPieces:Know 18 spPieces:=know (fun fn h=>r18_ok h) [(29,_)] (.cons kMod .nil) fun U fn hfn ⟨l,hl⟩ vs bs hv hb=>by
 have hm:=hfn 29 _ rfl
 have hl:l.length≤100:=hl
 have hv:RVs [.sl 1 (l.map intG1)] vs:=hv
 have hb:RBs [] bs:=hb
 show Sat U _ fun v bs'=>RRes (.ret (.c (.s (piecesS l)))) v∧RBs [] bs'
 unfold r18
 (refine Zq ?_;with_reducible repeat' first|intro _|apply And.intro)
 rename_i t off ht
 refine sLp (fun (j:Nat) vs bs=>vs=[.slice t 1 off l.length .no,.slice pieceT 1 0 30 .exact,.str (piecesS (l.take j)).length (code (piecesS (l.take j))),.int .i64 j]∧bs=[]∧j≤l.length) (fun j=>l.length - j) 0 ⟨?_,rfl,by omega⟩ (by simp only [FUEL];omega) ?_
 ·simp
  exact ⟨rfl,by decide,by decide⟩
 rintro self j vs bs ⟨rfl,rfl,hj⟩ ih
 (refine Zq ?_;with_reducible repeat' first|intro _|apply And.intro)
 ·have hlt:j < l.length:=by omega
  have hp:=piece_rws
  refine sCall hm ⟨(l[j],30),Nat.zero_lt_succ _,by show 30 < 1000000;decide⟩ (r:=.c (.i .i64 (l[j] % (30:Nat)))) rfl (by (exact Zrv)) .nil fun _ _ _ _=>?_
  have q0:0≤l[j] % ((30:Nat):Int):=by omega
  have q1:l[j] % ((30:Nat):Int) < 30:=by omega
  (refine Zq ?_;with_reducible repeat' first|intro _|apply And.intro)
  refine sfTm (y:=pieceS l[j]) hp (by
   have h30:(l[j] % ((30:Nat):Int)).toNat < pieceL.length:=by show _ < 30;omega
   show _=some (pieceL.getD (l[j] % ((30:Nat):Int)).toNat [])
   rw [List.getElem?_eq_getElem h30,List.getD_eq_getElem?_getD,List.getElem?_eq_getElem h30];rfl) fun x hx=>?_
  have hx:Cel [.s (pieceS l[j])] x 0:=hx
  have hl1:=piecesS_len (l.take j)
  have hl2:=pieceS_len l[j]
  rw [List.length_take] at hl1
  (refine Zq ?_;with_reducible repeat' first|intro _|apply And.intro)
  refine sfCat1 (x:=piecesS (l.take j)) (y:=pieceS l[j]) rfl rfl rfl ?_
  (refine Zq ?_;with_reducible repeat' first|intro _|apply And.intro)
  refine ih (j+1) _ _ ⟨?_,rfl,by omega⟩ (by omega)
  rw [List.take_succ_eq_append_getElem hlt,piecesS_snoc,List.length_append]
  rfl
 ·have e:j=l.length:=by omega
  subst e
  rw [List.take_length]
  exact sRet ⟨.ret _ _ (.s _ _ _ rfl rfl),.nil⟩
end
end Go.Proofs.YtffaodopiifbkaaGreatDoor
namespace Go.Proofs.YtffaodopiifbkaaGreatDoor
open Go.Abs LQ
set_option maxRecDepth 100000
set_option maxHeartbeats 4000000
noncomputable section
def firstT:Str:=dec 23 11151896793770781311442760586007685676770834311957995816
def firstO:O:=.co (.sy (lispS,[97])) (.co (.sy (lispS,[98])) (.co (.num 1 2) nilO))
theorem first_read:readP [(lispS,[])] lispS firstT=.ok [(firstO,0)]:=by kernel_rfl
theorem first_list:listO [.sy (lispS,[97]),.sy (lispS,[98]),numO (qn (decVal [49]) (decVal [50]))]=firstO:=by kernel_rfl
theorem sSlF {U:CombU} {P:VRes→List Bx→Prop} {z c:Nat} {xs:List (List G)} {v:V} {K:Tre Q→Nat→Nat→Om} (hv:RV (.fr (z+1) xs) v) (hc:capN (.fr (z+1))=c) (h:∀ t off,Rws (z+1) xs t off→Sat U (K t off xs.length) P):Sat U (U.uSl (z+1) c v K) P:=by
 cases hv with
 | fr _ _ t off len h1 h2=>subst h1;exact sSlV hc (h t off h2)
theorem sIk {U:CombU} {P:VRes→List Bx→Prop} {k:IntKind} {x:Om} (h:Sat U x P):Sat U (U.chk (U.ikEq k k) x) P :=
 sChk (p:=True) (fun e=>by subst e;exact ⟨fun _=>trivial,fun _=>ikEq_refl k⟩) trivial h
theorem kInitial:Know 45 (sp0 (.fr 2 [pg (lispS,[])])):=know (fun fn h=>r45_ok h) [] .nil fun U fn hfn _ vs bs hv hb=>by
 have hv:RVs [] vs:=hv
 have hb:RBs [] bs:=hb
 show Sat U _ fun v bs'=>RRes (.ret (.fr 2 [pg (lispS,[])])) v∧RBs [] bs'
 unfold r45
 (refine Zq ?_;with_reducible repeat' first|intro _|apply And.intro)
 refine sRet ⟨.ret _ _ (.fr _ _ _ _ _ rfl (.of fun j r h=>?_)),.nil⟩
 match j,h with
 | 0,h =>
  simp at h
  subst h
  refine ⟨rfl,?_,fun g h=>by simp [pg] at h⟩
  exact .cons _ _ _ _ (.s _ _ _ rfl (by decide)) (.cons _ _ _ _ (.l _ _ _ _ _ rfl (.nil _ _ _)) (.nil _ _))
 | j+1,h=>simp at h
theorem okPk_lisp:okPk [(lispS,[])]:=⟨by decide,fun p hp=>by cases List.mem_singleton.1 hp;decide⟩
theorem row7 {o:O} {q:Q} (h:Cel o.g q 0):o.g.length=7∧Row o.g q:=⟨O.g_len o,h,fun g e=>by have:=O.g_len o;rw [e] at this;simp at this⟩
theorem rws3 {a b c:O} {x y z:Q} (h1:Cel a.g x 0) (h2:Cel b.g y 0) (h3:Cel c.g z 0):Rws 7 ([a,b,c].map O.g) (.node x (.node y .nil .nil) (.node z .nil .nil)) 0:=.of fun j r h=>by
 match j,h with
 | 0,h=>simp at h;subst h;exact row7 h1
 | 1,h=>simp at h;subst h;exact row7 h2
 | 2,h=>simp at h;subst h;exact row7 h3
 | j+3,h=>simp at h
theorem kFirst5:Know 17 (sp0 (.c (.b true))):=know (fun fn h=>r17_ok h) [(45,_),(19,_),(47,_),(43,_),(48,_),(46,_),(22,_)] (.cons kInitial (.cons kOneX (.cons kLisp (.cons kSymbol (.cons kRational (.cons kList (.cons kEqual .nil))))))) fun U fn hfn _ vs bs hv hb=>by
 have hi:=hfn 45 _ rfl
 have ho:=hfn 19 _ rfl
 have hl:=hfn 47 _ rfl
 have hs:=hfn 43 _ rfl
 have hr:=hfn 48 _ rfl
 have hL:=hfn 46 _ rfl
 have he:=hfn 22 _ rfl
 have hv:RVs [] vs:=hv
 have hb:RBs [] bs:=hb
 show Sat U _ fun v bs'=>RRes (.ret (.c (.b true))) v∧RBs [] bs'
 unfold r17
 (refine Zq ?_;with_reducible repeat' first|intro _|apply And.intro)
 refine sCall hi () (r:=.fr 2 [pg (lispS,[])]) rfl .nil .nil fun _ _ hv1 _=>?_
 refine sSlF hv1 rfl fun t off ht=>?_
 (refine Zq ?_;with_reducible repeat' first|intro _|apply And.intro)
 refine sCall ho ⟨([(lispS,[])],lispS,firstT),okPk_lisp,by decide⟩ (r:=.t [.a firstO.g,errA 0 0]) (by
  show oneR _ (readP [(lispS,[])] lispS firstT)=_
  rw [first_read];rfl) (.cons _ _ _ _ (.sl _ _ _ _ _ rfl ht) (.cons _ _ _ _ (.s _ _ _ rfl (by decide)) (.cons _ _ _ _ (.s _ _ _ rfl (by decide)) .nil))) .nil fun _ _ hv2 _=>?_
 (refine Zq ?_;with_reducible repeat' first|intro _|apply And.intro)
 rename_i x0 g0 _ _ _ _ x1 g1
 refine sCall hl ([97]:Str) (r:=.a (sg (lispS,[97]))) rfl (.cons _ _ _ _ (.s _ _ _ rfl (by decide)) .nil) .nil fun _ _ hv3 _=>?_
 have hv3:RV (.a [.s lispS,.s [97]]) _:=hv3
 (refine Zq ?_;with_reducible repeat' first|intro _|apply And.intro)
 rename_i xa ga
 refine sCall hs (lispS,[97]) (r:=.a (O.sy (lispS,[97])).g) rfl (.cons _ _ _ _ (.a _ _ _ rfl ga) .nil) .nil fun _ _ hv4 _=>?_
 refine sAR hv4 (O.g_len _) fun qa ka=>?_
 (refine Zq ?_;with_reducible repeat' first|intro _|apply And.intro)
 refine sCall hl ([98]:Str) (r:=.a (sg (lispS,[98]))) rfl (.cons _ _ _ _ (.s _ _ _ rfl (by decide)) .nil) .nil fun _ _ hv5 _=>?_
 have hv5:RV (.a [.s lispS,.s [98]]) _:=hv5
 (refine Zq ?_;with_reducible repeat' first|intro _|apply And.intro)
 rename_i xb gb
 refine sCall hs (lispS,[98]) (r:=.a (O.sy (lispS,[98])).g) rfl (.cons _ _ _ _ (.a _ _ _ rfl gb) .nil) .nil fun _ _ hv6 _=>?_
 refine sAR hv6 (O.g_len _) fun qb kb=>?_
 (refine Zq ?_;with_reducible repeat' first|intro _|apply And.intro)
 refine sCall hr ⟨([49],[50]),by decide,by decide⟩ (r:=.a (numO (qn (decVal [49]) (decVal [50]))).g) rfl (.cons _ _ _ _ (.s _ _ _ rfl (by decide)) (.cons _ _ _ _ (.s _ _ _ rfl (by decide)) .nil)) .nil fun _ _ hv7 _=>?_
 refine sAR hv7 (O.g_len _) fun qc kc=>?_
 (refine Zq ?_;with_reducible repeat' first|intro _|apply And.intro)
 refine sCall hL ⟨[.sy (lispS,[97]),.sy (lispS,[98]),numO (qn (decVal [49]) (decVal [50]))],by decide⟩ (r:=.a firstO.g) (by rw [← first_list];rfl) (.cons _ _ _ _ (.sl _ _ _ _ _ rfl (rws3 ka kb kc)) .nil) .nil fun _ _ hv8 _=>?_
 refine sAR hv8 (O.g_len _) fun qd kd=>?_
 (refine Zq ?_;with_reducible repeat' first|intro _|apply And.intro)
 refine sIk ?_
 (refine Zq ?_;with_reducible repeat' first|intro _|apply And.intro)
 refine sIk ?_
 (refine Zq ?_;with_reducible repeat' first|intro _|apply And.intro)
 ·rename_i y0 l0 y1 l1
  refine sCall he (firstO,firstO) (r:=.c (.b true)) (congrArg (fun b=>GRes.ret (.c (.b b))) (O.eqb_t.2 rfl)) (.cons _ _ _ _ (.a _ _ _ (O.g_len _).symm l0) (.cons _ _ _ _ (.a _ _ _ (O.g_len _).symm l1) .nil)) .nil fun _ _ hv9 _=>?_
  (refine Zq ?_;with_reducible repeat' first|intro _|apply And.intro)
  exact sRet ⟨.ret _ _ (.b _),.nil⟩
 ·rename_i hh
  exact absurd ⟨rfl,rfl,trivial⟩ hh
end
end Go.Proofs.YtffaodopiifbkaaGreatDoor
namespace Go.Proofs.YtffaodopiifbkaaGreatDoor
open Go.Abs LQ
set_option maxRecDepth 100000
set_option maxHeartbeats 4000000
noncomputable section
def spTwoL:Sp where
 ι:={ p:List Int × List Int // True }
 A p:=[.sl 1 (p.1.1.map intG1),.sl 1 (p.1.2.map intG1)]
 B _:=[]
 R _:=.ret (.c (.b true))
 B' _:=[]
 inj _ _ _ _ _ _ _ _:=⟨rfl,rfl⟩
theorem kPrefix:Know 5 spTwoL:=know (fun fn h=>r5_ok h) [(17,_),(18,_),(23,_)] (.cons kFirst5 (.cons kPieces (.cons kTokensX .nil))) fun U fn hfn ⟨(l,m),_⟩ vs bs hv hb=>by
 have hf:=hfn 17 _ rfl
 have hp:=hfn 18 _ rfl
 have ht:=hfn 23 _ rfl
 have hv:RVs [.sl 1 (l.map intG1),.sl 1 (m.map intG1)] vs:=hv
 have hb:RBs [] bs:=hb
 show Sat U _ fun v bs'=>RRes (.ret (.c (.b true))) v∧RBs [] bs'
 unfold r5
 have good:Sat U (some (.ret (.known true),[])) fun v bs'=>RRes (.ret (.c (.b true))) v∧RBs [] bs':=sRet ⟨.ret _ _ (.kn _),.nil⟩
 (refine Zq ?_;with_reducible repeat' first|intro _|apply And.intro)
 rename_i t1 o1 ht1 _ _ _ _ t2 o2 ht2
 refine sCall hf () (r:=.c (.b true)) rfl .nil .nil fun _ _ _ _=>?_
 (refine Zy ?_;with_reducible repeat' first|intro _|apply And.intro)
 refine sJnP (fun vs bs=>∃ (b:Bool) (v:V),vs=[.slice t1 1 o1 l.length .no,.slice t2 1 o2 m.length .no,v]∧bs=[]∧RV (.c (.b b)) v∧(b=false→l.length≤30∧m.length≤10)) ?_ ?_
 ·rintro _ _ ⟨b,v,rfl,rfl,hbv,hlm⟩
  (refine Zq ?_;with_reducible repeat' first|intro _|apply And.intro)
  ·exact good
  ·have hb:¬b=true:=‹_›
   obtain ⟨hl,hm⟩:=hlm (by simpa using hb)
   have hl1:=piecesS_len l
   have hm1:=piecesS_len m
   refine sCall hp ⟨l,by show l.length≤100;omega⟩ (r:=.c (.s (piecesS l))) rfl (.cons _ _ _ _ (.sl _ _ _ _ _ (by simp) ht1) .nil) .nil fun _ _ hv1 _=>?_
   (refine Zq ?_;with_reducible repeat' first|intro _|apply And.intro)
   refine sfCat1 (x:=piecesS l) (y:=[32]) rfl rfl (by decide) ?_
   have hsl:(piecesS l ++ [32]).length < 8000:=by simp;omega
   have ev:RVs [.c (.s (piecesS l ++ [32]))] [V.str (List.length (piecesS l)+1) (code (piecesS l ++ [32]))]:=.cons _ _ _ _ (.s _ _ _ (by simp) rfl) .nil
   cases hx:tokens (piecesS l ++ [32]) with
   | ok T =>
    refine sCall ht ⟨piecesS l ++ [32],hsl⟩ (r:=.t [.sl 5 (T.map tkG),errA 0 0]) (by show toksT (tokens _)=_;rw [hx];rfl) ev .nil fun _ _ hv2 _=>?_
    have hv2:RV (.t [.sl 5 (T.map tkG),.a [.i .i64 0,.i .i64 0]]) _:=hv2
    (refine Zy ?_;with_reducible repeat' first|intro _|apply And.intro)
    ·exact good
    ·exact absurd rfl ‹_›
   | error ep =>
    obtain ⟨e,p⟩:=ep
    obtain ⟨hp1,hp2⟩:=tokens_prefix (u:=piecesS m) (by simp;omega) hx
    refine sCall ht ⟨piecesS l ++ [32],hsl⟩ (r:=.t [.sl 5 [],errA e p]) (by show toksT (tokens _)=_;rw [hx];rfl) ev .nil fun _ _ hv2 _=>?_
    have hv2:RV (.t [.sl 5 ([].map tkG),.a [.i .i64 e,.i .i64 (p:Int)]]) _:=hv2
    (refine Zy ?_;with_reducible repeat' first|intro _|apply And.intro)
    ·exact good
    ·rename_i x0 g0 _ _ _
     refine sJnP (fun vs bs=>∃ v,vs=[.slice t2 1 o2 m.length .no,.str (piecesS l).length (code (piecesS l)),.ptr 0 0,v]∧bs=[.opa x0 2]∧RV (.c (.b false)) v) ?_ ?_
     ·rintro _ _ ⟨v,rfl,rfl,hbv⟩
      (refine Zq ?_;with_reducible repeat' first|intro _|apply And.intro)
      ·exact good
      ·have he:e ≠ 11:=‹_›
       refine sfCat1 (x:=piecesS l) (y:=[32]) rfl rfl (by decide) ?_
       (refine Zq ?_;with_reducible repeat' first|intro _|apply And.intro)
       refine sCall hp ⟨m,by show m.length≤100;omega⟩ (r:=.c (.s (piecesS m))) rfl (.cons _ _ _ _ (.sl _ _ _ _ _ (by simp) ht2) .nil) .nil fun _ _ hv3 _=>?_
       (refine Zq ?_;with_reducible repeat' first|intro _|apply And.intro)
       refine sfCat1 (x:=piecesS l ++ [32]) (y:=piecesS m) (by simp) rfl rfl ?_
       refine sCall ht ⟨piecesS l ++ [32] ++ piecesS m,by show (piecesS l ++ [32] ++ piecesS m).length < 8000;simp;omega⟩ (r:=.t [.sl 5 [],errA e p]) (by show toksT (tokens _)=_;rw [hp2 he];rfl) (.cons _ _ _ _ (.s _ _ _ (by simp;omega) rfl) .nil) .nil fun _ _ hv4 _=>?_
       have hv4:RV (.t [.sl 5 ([].map tkG),.a [.i .i64 e,.i .i64 (p:Int)]]) _:=hv4
       (refine Zq ?_;with_reducible repeat' first|intro _|apply And.intro)
       refine sIk ?_
       (refine Zq ?_;with_reducible repeat' first|intro _|apply And.intro)
       refine sIk ?_
       refine sfB ?_
       refine sRetU fun e9=>?_
       subst e9
       exact ⟨.ret _ _ (rvB (by rw [cuEq,cuEq,cuAnd,cuAnd];simp)),.nil⟩
     ·intro c hc
      (refine Zq ?_;with_reducible repeat' first|intro _|apply And.intro)
      ·have:(p:Int) < 0:=‹_›
       omega
      ·refine fun e9=>?_
       subst e9
       refine hc _ _ ⟨_,rfl,rfl,rvB ?_⟩ rfl
       rw [cuLt]
       simp;omega
 ·intro c hc
  (refine Zq ?_;with_reducible repeat' first|intro _|apply And.intro)
  ·exact hc _ _ ⟨true,_,rfl,rfl,.kn _,fun h=>by cases h⟩
  ·refine fun e=>?_
   subst e
   refine hc _ _ ⟨decide ((10:Int) < m.length),_,rfl,rfl,rvB (cuLt _ _).symm,fun h=>?_⟩ rfl
   have h:=of_decide_eq_false h
   omega
end
end Go.Proofs.YtffaodopiifbkaaGreatDoor
