/- Texts made of pieces. -/
import Derived.Test.YtffaodopiifbkaaGreatDoorCRA
import Derived.Test.YtffaodopiifbkaaGreatDoorCEA
import Derived.Test.YtffaodopiifbkaaGreatDoorCTC
set_option linter.all false
namespace Go.Proofs.YtffaodopiifbkaaGreatDoor
open Go.Abs LQ
set_option maxRecDepth 100000
set_option maxHeartbeats 4000000
noncomputable section
theorem e5j {U:w7} {P:G3→List Bx→Prop} {x y:List UInt8} {l c1 c2:Nat} {K:Nat→Om} (h1:l=x.length) (e1:c1=n6 x) (e2:c2=n6 y) (k:j3 U (K (n6 (x ++ y))) P):j3 U (U.fN (U.sCat l c1 c2) K) P:=fun e=>by
 subst h1 e1 e2
 have:=k e
 subst e
 rw [a3l]
 show ∃ v bs,K (sCat x.length (n6 x) (n6 y))=some (v,bs)∧P v bs
 rw [b0t];exact this
def W3:List i7:=[[40],[41],[39],[32],[46],[97],[49,50],[45,51],[49,47,50],[48,47,53],[49,47,48],[34],[120,32,121],[124],[108,105,115,112,58,58],[117,115,101,114,58,58],[58,58],[58],[59],[10],[35,124],[124,35],[35],[92],[45],[48,48,55],[99,97,114],[9],[195,169],[0]]
def c17:j8 Q:=(.node (.str 1 40) (.node (.str 1 41) (.node (.str 1 32) (.node (.str 2 13101) (.node (.str 6 64022701765493) .nil .nil) (.node (.str 1 92) .nil .nil)) (.node (.str 1 34) (.node (.str 1 10) .nil .nil) (.node (.str 1 9) .nil .nil))) (.node (.str 1 97) (.node (.str 3 3485488) (.node (.str 1 58) .nil .nil) (.node (.str 3 3616816) .nil .nil)) (.node (.str 1 124) (.node (.str 2 9084) .nil .nil) (.node (.str 1 0) .nil .nil)))) (.node (.str 1 39) (.node (.str 1 46) (.node (.str 3 3288881) (.node (.str 2 14906) .nil .nil) (.node (.str 1 45) .nil .nil)) (.node (.str 3 7938168) (.node (.str 2 31779) .nil .nil) (.node (.str 2 43459) .nil .nil))) (.node (.str 2 12849) (.node (.str 3 3157809) (.node (.str 1 59) .nil .nil) (.node (.str 3 7496035) .nil .nil)) (.node (.str 6 64022669125996) (.node (.str 1 35) .nil .nil) .nil))))
def e5v (s:i7):List G:=[.s s]
def a08 (n:Int):List G:=[.i .i64 n]
theorem d43:∀ i,i < 30→tQ c17 i=.str (W3.getD i []).length (n6 (W3.getD i []))
 | 0,_=>rfl
 | 1,_=>rfl
 | 2,_=>rfl
 | 3,_=>rfl
 | 4,_=>rfl
 | 5,_=>rfl
 | 6,_=>rfl
 | 7,_=>rfl
 | 8,_=>rfl
 | 9,_=>rfl
 | 10,_=>rfl
 | 11,_=>rfl
 | 12,_=>rfl
 | 13,_=>rfl
 | 14,_=>rfl
 | 15,_=>rfl
 | 16,_=>rfl
 | 17,_=>rfl
 | 18,_=>rfl
 | 19,_=>rfl
 | 20,_=>rfl
 | 21,_=>rfl
 | 22,_=>rfl
 | 23,_=>rfl
 | 24,_=>rfl
 | 25,_=>rfl
 | 26,_=>rfl
 | 27,_=>rfl
 | 28,_=>rfl
 | 29,_=>rfl
 | n+30,h=>absurd h (by omega)
theorem c9l:u6 1 (W3.map e5v) c17 0:=.of fun j r h=>by
 have hj:j < 30:=by
  have:=(List.getElem?_eq_some_iff.1 h).1
  simpa [W3] using this
 have e:r=e5v (W3.getD j []):=by
  rw [List.getElem?_map] at h
  have hl:j < W3.length:=hj
  rw [List.getElem?_eq_getElem hl] at h
  simp only [Option.map_some,Option.some.injEq] at h
  rw [← h,List.getD_eq_getElem?_getD,List.getElem?_eq_getElem hl];rfl
 subst e
 rw [Nat.zero_add,d43 j hj]
 refine ⟨rfl,?_,fun g h=>?_⟩
 ·exact .cons _ _ _ _ (.s _ _ _ rfl rfl) (.nil _ _)
 ·injection h with h _;subst h;exact .s _ _ _ rfl rfl
def a5b (n:Int):i7:=W3.getD (n % 30).toNat []
def R5 (l:List Int):i7:=(l.map a5b).flatten
theorem c6u:∀ s ∈ W3,s.length≤6:=by decide
theorem b4t (n:Int):(a5b n).length≤6:=by
 unfold a5b
 rw [List.getD_eq_getElem?_getD]
 cases h:W3[(n % 30).toNat]? with
 | none=>simp
 | some s=>exact c6u s (List.mem_of_getElem? h)
theorem b2i:∀ l:List Int,(R5 l).length≤6 * l.length
 | []=>by simp [R5]
 | n :: l=>by
  have h1:=b2i l
  have h2:=b4t n
  unfold R5 at *
  simp only [List.map_cons,List.flatten_cons,List.length_append,List.length_cons];omega
theorem c00 (l:List Int) (n:Int):R5 (l ++ [n])=R5 l ++ a5b n:=by simp [R5]
theorem b6k:∀ {l m:List Int},l.map a08=m.map a08→l=m
 | [],[],_=>rfl
 | [],_ :: _,h=>by simp at h
 | _ :: _,[],h=>by simp at h
 | a :: l,b :: m,h=>by simp only [List.map_cons,List.cons.injEq,a08,G.i.injEq,true_and,and_true] at h;rw [h.1,b6k h.2]
def d2i:Sp where
 ι:={ l:List Int // l.length≤100 }
 A l:=[.sl 1 (l.1.map a08)]
 B _:=[]
 R l:=.ret (.c (.s (R5 l.1)))
 B' _:=[]
 inj i j vs bs h k _ _:=by
  obtain ⟨_,_,h1,k1,h,k⟩:=h.two k
  rw [b6k (h1.sl_inj k1)];exact ⟨rfl,rfl⟩
theorem f3o:l5 18 d2i:=v7 (fun fn h=>e7d h) [(29,_)] (.cons f1a .nil) fun U fn hfn ⟨l,hl⟩ vs bs hv hb=>by
 have hm:=hfn 29 _ rfl
 have hl:l.length≤100:=hl
 have hv:l9 [.sl 1 (l.map a08)] vs:=hv
 have hb:RBs [] bs:=hb
 show j3 U _ fun v bs'=>m8 (.ret (.c (.s (R5 l)))) v∧RBs [] bs'
 unfold r18
 (refine Zq ?_;with_reducible repeat' first|intro _|apply And.intro)
 rename_i t off ht
 refine F8 (fun (j:Nat) vs bs=>vs=[.slice t 1 off l.length .no,.slice c17 1 0 30 .exact,.str (R5 (l.take j)).length (n6 (R5 (l.take j))),.int .i64 j]∧bs=[]∧j≤l.length) (fun j=>l.length - j) 0 ⟨?_,rfl,by omega⟩ (by simp only [B8];omega) ?_
 ·simp
  exact ⟨rfl,by decide,by decide⟩
 rintro self j vs bs ⟨rfl,rfl,hj⟩ ih
 (refine Zq ?_;with_reducible repeat' first|intro _|apply And.intro)
 ·have hlt:j < l.length:=by omega
  have hp:=c9l
  refine j4 hm ⟨(l[j],30),Nat.zero_lt_succ _,by show 30 < 1000000;decide⟩ (r:=.c (.i .i64 (l[j] % (30:Nat)))) rfl (by (exact j9)) .nil fun _ _ _ _=>?_
  have q0:0≤l[j] % ((30:Nat):Int):=by omega
  have q1:l[j] % ((30:Nat):Int) < 30:=by omega
  (refine Zq ?_;with_reducible repeat' first|intro _|apply And.intro)
  refine b3i (y:=a5b l[j]) hp (by
   have h30:(l[j] % ((30:Nat):Int)).toNat < W3.length:=by show _ < 30;omega
   show _=some (W3.getD (l[j] % ((30:Nat):Int)).toNat [])
   rw [List.getElem?_eq_getElem h30,List.getD_eq_getElem?_getD,List.getElem?_eq_getElem h30];rfl) fun x hx=>?_
  have hx:B6 [.s (a5b l[j])] x 0:=hx
  have hl1:=b2i (l.take j)
  have hl2:=b4t l[j]
  rw [List.length_take] at hl1
  (refine Zq ?_;with_reducible repeat' first|intro _|apply And.intro)
  refine e5j (x:=R5 (l.take j)) (y:=a5b l[j]) rfl rfl rfl ?_
  (refine Zq ?_;with_reducible repeat' first|intro _|apply And.intro)
  refine ih (j+1) _ _ ⟨?_,rfl,by omega⟩ (by omega)
  rw [List.take_succ_eq_append_getElem hlt,c00,List.length_append]
  rfl
 ·have e:j=l.length:=by omega
  subst e
  rw [List.take_length]
  exact l6 ⟨.ret _ _ (.s _ _ _ rfl rfl),.nil⟩
end
end Go.Proofs.YtffaodopiifbkaaGreatDoor
namespace Go.Proofs.YtffaodopiifbkaaGreatDoor
open Go.Abs LQ
set_option maxRecDepth 100000
set_option maxHeartbeats 4000000
noncomputable section
def c30:i7:=u7 23 11151896793770781311442760586007685676770834311957995816
def a7z:O:=.co (.sy (E4,[97])) (.co (.sy (E4,[98])) (.co (.num 1 2) Z3))
theorem c8g:M5 [(E4,[])] E4 c30=.ok [(a7z,0)]:=by kernel_rfl
theorem c81:T4 [.sy (E4,[97]),.sy (E4,[98]),a7a (qn (i6 [49]) (i6 [50]))]=a7z:=by kernel_rfl
theorem f2z {U:w7} {P:G3→List Bx→Prop} {z c:Nat} {xs:List (List G)} {v:V} {K:j8 Q→Nat→Nat→Om} (hv:RV (.fr (z+1) xs) v) (hc:X8 (.fr (z+1))=c) (h:∀ t off,u6 (z+1) xs t off→j3 U (K t off xs.length) P):j3 U (U.uSl (z+1) c v K) P:=by
 cases hv with
 | fr _ _ t off len h1 h2=>subst h1;exact b7p hc (h t off h2)
theorem sIk {U:w7} {P:G3→List Bx→Prop} {k:IntKind} {x:Om} (h:j3 U x P):j3 U (U.chk (U.ikEq k k) x) P :=
 c8p (p:=True) (fun e=>by subst e;exact ⟨fun _=>trivial,fun _=>a6s k⟩) trivial h
theorem d3a:l5 45 (sp0 (.fr 2 [pg (E4,[])])):=v7 (fun fn h=>e3d h) [] .nil fun U fn hfn _ vs bs hv hb=>by
 have hv:l9 [] vs:=hv
 have hb:RBs [] bs:=hb
 show j3 U _ fun v bs'=>m8 (.ret (.fr 2 [pg (E4,[])])) v∧RBs [] bs'
 unfold r45
 (refine Zq ?_;with_reducible repeat' first|intro _|apply And.intro)
 refine l6 ⟨.ret _ _ (.fr _ _ _ _ _ rfl (.of fun j r h=>?_)),.nil⟩
 match j,h with
 | 0,h =>
  simp at h
  subst h
  refine ⟨rfl,?_,fun g h=>by simp [pg] at h⟩
  exact .cons _ _ _ _ (.s _ _ _ rfl (by decide)) (.cons _ _ _ _ (.l _ _ _ _ _ rfl (.nil _ _ _)) (.nil _ _))
 | j+1,h=>simp at h
theorem d1a:a49 [(E4,[])]:=⟨by decide,fun p hp=>by cases List.mem_singleton.1 hp;decide⟩
theorem d6l {o:O} {q:Q} (h:B6 o.g q 0):o.g.length=7∧Row o.g q:=⟨O.g_len o,h,fun g e=>by have:=O.g_len o;rw [e] at this;simp at this⟩
theorem f13 {a b c:O} {x y z:Q} (h1:B6 a.g x 0) (h2:B6 b.g y 0) (h3:B6 c.g z 0):u6 7 ([a,b,c].map O.g) (.node x (.node y .nil .nil) (.node z .nil .nil)) 0:=.of fun j r h=>by
 match j,h with
 | 0,h=>simp at h;subst h;exact d6l h1
 | 1,h=>simp at h;subst h;exact d6l h2
 | 2,h=>simp at h;subst h;exact d6l h3
 | j+3,h=>simp at h
theorem d96:l5 17 (sp0 (.c (.b true))):=v7 (fun fn h=>e6u h) [(45,_),(19,_),(47,_),(43,_),(48,_),(46,_),(22,_)] (.cons d3a (.cons e9j (.cons d71 (.cons c6l (.cons d0h (.cons e84 (.cons e49 .nil))))))) fun U fn hfn _ vs bs hv hb=>by
 have hi:=hfn 45 _ rfl
 have ho:=hfn 19 _ rfl
 have hl:=hfn 47 _ rfl
 have hs:=hfn 43 _ rfl
 have hr:=hfn 48 _ rfl
 have hL:=hfn 46 _ rfl
 have he:=hfn 22 _ rfl
 have hv:l9 [] vs:=hv
 have hb:RBs [] bs:=hb
 show j3 U _ fun v bs'=>m8 (.ret (.c (.b true))) v∧RBs [] bs'
 unfold r17
 (refine Zq ?_;with_reducible repeat' first|intro _|apply And.intro)
 refine j4 hi () (r:=.fr 2 [pg (E4,[])]) rfl .nil .nil fun _ _ hv1 _=>?_
 refine f2z hv1 rfl fun t off ht=>?_
 (refine Zq ?_;with_reducible repeat' first|intro _|apply And.intro)
 refine j4 ho ⟨([(E4,[])],E4,c30),d1a,by decide⟩ (r:=.t [.a a7z.g,D1 0 0]) (by
  show b7d _ (M5 [(E4,[])] E4 c30)=_
  rw [c8g];rfl) (.cons _ _ _ _ (.sl _ _ _ _ _ rfl ht) (.cons _ _ _ _ (.s _ _ _ rfl (by decide)) (.cons _ _ _ _ (.s _ _ _ rfl (by decide)) .nil))) .nil fun _ _ hv2 _=>?_
 (refine Zq ?_;with_reducible repeat' first|intro _|apply And.intro)
 rename_i x0 g0 _ _ _ _ x1 g1
 refine j4 hl ([97]:i7) (r:=.a (sg (E4,[97]))) rfl (.cons _ _ _ _ (.s _ _ _ rfl (by decide)) .nil) .nil fun _ _ hv3 _=>?_
 have hv3:RV (.a [.s E4,.s [97]]) _:=hv3
 (refine Zq ?_;with_reducible repeat' first|intro _|apply And.intro)
 rename_i xa ga
 refine j4 hs (E4,[97]) (r:=.a (O.sy (E4,[97])).g) rfl (.cons _ _ _ _ (.a _ _ _ rfl ga) .nil) .nil fun _ _ hv4 _=>?_
 refine U4 hv4 (O.g_len _) fun qa ka=>?_
 (refine Zq ?_;with_reducible repeat' first|intro _|apply And.intro)
 refine j4 hl ([98]:i7) (r:=.a (sg (E4,[98]))) rfl (.cons _ _ _ _ (.s _ _ _ rfl (by decide)) .nil) .nil fun _ _ hv5 _=>?_
 have hv5:RV (.a [.s E4,.s [98]]) _:=hv5
 (refine Zq ?_;with_reducible repeat' first|intro _|apply And.intro)
 rename_i xb gb
 refine j4 hs (E4,[98]) (r:=.a (O.sy (E4,[98])).g) rfl (.cons _ _ _ _ (.a _ _ _ rfl gb) .nil) .nil fun _ _ hv6 _=>?_
 refine U4 hv6 (O.g_len _) fun qb kb=>?_
 (refine Zq ?_;with_reducible repeat' first|intro _|apply And.intro)
 refine j4 hr ⟨([49],[50]),by decide,by decide⟩ (r:=.a (a7a (qn (i6 [49]) (i6 [50]))).g) rfl (.cons _ _ _ _ (.s _ _ _ rfl (by decide)) (.cons _ _ _ _ (.s _ _ _ rfl (by decide)) .nil)) .nil fun _ _ hv7 _=>?_
 refine U4 hv7 (O.g_len _) fun qc kc=>?_
 (refine Zq ?_;with_reducible repeat' first|intro _|apply And.intro)
 refine j4 hL ⟨[.sy (E4,[97]),.sy (E4,[98]),a7a (qn (i6 [49]) (i6 [50]))],by decide⟩ (r:=.a a7z.g) (by rw [← c81];rfl) (.cons _ _ _ _ (.sl _ _ _ _ _ rfl (f13 ka kb kc)) .nil) .nil fun _ _ hv8 _=>?_
 refine U4 hv8 (O.g_len _) fun qd kd=>?_
 (refine Zq ?_;with_reducible repeat' first|intro _|apply And.intro)
 refine sIk ?_
 (refine Zq ?_;with_reducible repeat' first|intro _|apply And.intro)
 refine sIk ?_
 (refine Zq ?_;with_reducible repeat' first|intro _|apply And.intro)
 ·rename_i y0 l0 y1 l1
  refine j4 he (a7z,a7z) (r:=.c (.b true)) (congrArg (fun b=>y4.ret (.c (.b b))) (O.eqb_t.2 rfl)) (.cons _ _ _ _ (.a _ _ _ (O.g_len _).symm l0) (.cons _ _ _ _ (.a _ _ _ (O.g_len _).symm l1) .nil)) .nil fun _ _ hv9 _=>?_
  (refine Zq ?_;with_reducible repeat' first|intro _|apply And.intro)
  exact l6 ⟨.ret _ _ (.b _),.nil⟩
 ·rename_i hh
  exact absurd ⟨rfl,rfl,trivial⟩ hh
end
end Go.Proofs.YtffaodopiifbkaaGreatDoor
