/- Texts made of pieces. -/
import Derived.Test.YtffaodopiifbkaaGreatDoorCRA
import Derived.Test.YtffaodopiifbkaaGreatDoorCTC
set_option linter.all false
namespace Go.Proofs.YtffaodopiifbkaaGreatDoor
open Go.Abs LQ
set_option maxRecDepth 100000
set_option maxHeartbeats 4000000
noncomputable section
theorem a58 {U:t6} {P:E6→List Bx→Prop} {x y:List UInt8} {l c1 c2:Nat} {K:Nat→Om} (h1:l=x.length) (e1:c1=m8 x) (e2:c2=m8 y) (k:j3 U (K (m8 (x ++ y))) P):j3 U (U.fN (U.sCat l c1 c2) K) P:=fun e=>by
 subst h1 e1 e2
 have:=k e
 subst e
 rw [a3u]
 show ∃ v bs,K (sCat x.length (m8 x) (m8 y))=some (v,bs)∧P v bs
 rw [b0p];exact this
def X9:List j0:=[[40],[41],[39],[32],[46],[97],[49,50],[45,51],[49,47,50],[48,47,53],[49,47,48],[34],[120,32,121],[124],[108,105,115,112,58,58],[117,115,101,114,58,58],[58,58],[58],[59],[10],[35,124],[124,35],[35],[92],[45],[48,48,55],[99,97,114],[9],[195,169],[0]]
def c4a:j9 Q:=(.node (.str 1 40) (.node (.str 1 41) (.node (.str 1 32) (.node (.str 2 13101) (.node (.str 6 64022701765493) .nil .nil) (.node (.str 1 92) .nil .nil)) (.node (.str 1 34) (.node (.str 1 10) .nil .nil) (.node (.str 1 9) .nil .nil))) (.node (.str 1 97) (.node (.str 3 3485488) (.node (.str 1 58) .nil .nil) (.node (.str 3 3616816) .nil .nil)) (.node (.str 1 124) (.node (.str 2 9084) .nil .nil) (.node (.str 1 0) .nil .nil)))) (.node (.str 1 39) (.node (.str 1 46) (.node (.str 3 3288881) (.node (.str 2 14906) .nil .nil) (.node (.str 1 45) .nil .nil)) (.node (.str 3 7938168) (.node (.str 2 31779) .nil .nil) (.node (.str 2 43459) .nil .nil))) (.node (.str 2 12849) (.node (.str 3 3157809) (.node (.str 1 59) .nil .nil) (.node (.str 3 7496035) .nil .nil)) (.node (.str 6 64022669125996) (.node (.str 1 35) .nil .nil) .nil))))
def e7r (s:j0):List G:=[.s s]
def Q5 (n:Int):List G:=[.i .i64 n]
theorem d7p:∀ i,i < 30→tQ c4a i=.str (X9.getD i []).length (m8 (X9.getD i []))
 | 0,_=>rfl
 | 1,_=>rfl
 | 2,_=>rfl
 | 3,_=>rfl
 | 4,_=>rfl
 | 5,_=>rfl
 | 6,_=>rfl
 | 7,_=>rfl
 | 8,_=>rfl
 | 9,_=>rfl
 | 10,_=>rfl
 | 11,_=>rfl
 | 12,_=>rfl
 | 13,_=>rfl
 | 14,_=>rfl
 | 15,_=>rfl
 | 16,_=>rfl
 | 17,_=>rfl
 | 18,_=>rfl
 | 19,_=>rfl
 | 20,_=>rfl
 | 21,_=>rfl
 | 22,_=>rfl
 | 23,_=>rfl
 | 24,_=>rfl
 | 25,_=>rfl
 | 26,_=>rfl
 | 27,_=>rfl
 | 28,_=>rfl
 | 29,_=>rfl
 | n+30,h=>absurd h oM
theorem d3y:p5 1 (X9.map e7r) c4a 0:=.of fun j r h=>by
 have hj:j < 30:=by
  have:=(List.getElem?_eq_some_iff.1 h).1
  simpa [X9] using this
 have e:r=e7r (X9.getD j []):=by
  rw [List.getElem?_map] at h
  have hl:j < X9.length:=hj
  rw [List.getElem?_eq_getElem hl] at h
  simp only [Option.map_some,Option.some.injEq] at h
  rw [← h,List.getD_eq_getElem?_getD,List.getElem?_eq_getElem hl];rfl
 subst e
 rw [Nat.zero_add,d7p j hj]
 refine ⟨rfl,?_,fun g h=>?_⟩
 ·exact .k (.s _ _ _ rfl rfl) (.nil _ _)
 ·injection h with h _;subst h;exact .s _ _ _ rfl rfl
def a56 (n:Int):j0:=X9.getD (n % 30).toNat []
def H0 (l:List Int):j0:=(l.map a56).flatten
theorem c85:∀ s ∈ X9,s.length≤6:=dE
theorem b5s (n:Int):(a56 n).length≤6:=by
 unfold a56
 rw [List.getD_eq_getElem?_getD]
 cases h:X9[(n % 30).toNat]? with
 | none=>simp
 | some s=>exact c85 s (List.mem_of_getElem? h)
theorem a2z:∀ l:List Int,(H0 l).length≤6 * l.length
 | []=>by simp [H0]
 | n :: l=>by
  have h1:=a2z l
  have h2:=b5s n
  unfold H0 at *
  simp only [List.map_cons,List.flatten_cons,List.length_append,List.length_cons];omega
theorem c3j (l:List Int) (n:Int):H0 (l ++ [n])=H0 l ++ a56 n:=by simp [H0]
theorem b6b:∀ {l m:List Int},l.map Q5=m.map Q5→l=m
 | [],[],_=>rfl
 | [],_ :: _,h=>by simp at h
 | _ :: _,[],h=>by simp at h
 | a :: l,b :: m,h=>by simp only [List.map_cons,List.cons.injEq,Q5,G.i.injEq,true_and,and_true] at h;rw [h.1,b6b h.2]
def d49:Sp where
 ι:={ l:List Int // l.length≤100 }
 A l:=[.sl 1 (l.1.map Q5)]
 B _:=[]
 R l:=.ret (.c (.s (H0 l.1)))
 B' _:=[]
 inj i j vs bs h k _ _:=by
  obtain ⟨_,_,h1,k1,h,k⟩:=h.two k
  rw [b6b (h1.sl_inj k1)];exact ⟨rfl,rfl⟩
theorem c69:l6 18 d49:=o7 (fun fn h=>e7i h) [(29,_)] (.cons d6g .nil) fun U fn hfn ⟨l,hl⟩ vs bs hv hb=>by
 have hm:=hfn 29 _ rfl
 have hl:l.length≤100:=hl
 have hv:l8 [.sl 1 (l.map Q5)] vs:=hv
 have hb:RBs [] bs:=hb
 show j3 U _ fun v bs'=>l7 (.ret (.c (.s (H0 l)))) v∧RBs [] bs'
 unfold r18
 (refine Zq ?_;intros)
 rename_i t off ht
 refine C7 (fun (j:Nat) vs bs=>vs=[.slice t 1 off l.length .no,.slice c4a 1 0 30 .exact,.str (H0 (l.take j)).length (m8 (H0 (l.take j))),.int .i64 j]∧bs=[]∧j≤l.length) (fun j=>l.length - j) 0 ⟨?_,rfl,oM⟩ (by simp only [x8];omega) ?_
 ·simp
  exact ⟨rfl,dE,dE⟩
 rintro self j vs bs ⟨rfl,rfl,hj⟩ ih
 (refine Zq ?_;with_reducible repeat' first|intro _|apply aI)
 ·have hlt:j < l.length:=oM
  have hp:=d3y
  refine i6 hm ⟨(l[j],30),Nat.zero_lt_succ _,by show 30 < 1000000;decide⟩ (r:=.c (.i .i64 (l[j] % (30:Nat)))) rfl j7 .nil fun _ _ _ _=>?_
  have q0:0≤l[j] % ((30:Nat):Int):=oM
  have q1:l[j] % ((30:Nat):Int) < 30:=oM
  (refine Zq ?_;intros)
  refine b1r (y:=a56 l[j]) hp (by
   have h30:(l[j] % ((30:Nat):Int)).toNat < X9.length:=by show _ < 30;omega
   show _=some (X9.getD (l[j] % ((30:Nat):Int)).toNat [])
   rw [List.getElem?_eq_getElem h30,List.getD_eq_getElem?_getD,List.getElem?_eq_getElem h30];rfl) fun x hx=>?_
  have hx:x4 [.s (a56 l[j])] x 0:=hx
  have hl1:=a2z (l.take j)
  have hl2:=b5s l[j]
  rw [List.length_take] at hl1
  (refine Zq ?_;intros)
  refine a58 (x:=H0 (l.take j)) (y:=a56 l[j]) rfl rfl rfl ?_
  (refine Zq ?_;intros)
  refine ih (j+1) _ _ ⟨?_,rfl,oM⟩ oM
  rw [List.take_succ_eq_append_getElem hlt,c3j,List.length_append]
  rfl
 ·have e:j=l.length:=oM
  subst e
  rw [List.take_length]
  exact k9 ⟨.ret _ _ (.s _ _ _ rfl rfl),.nil⟩
def c4e:j0:=q8 23 11151896793770781311442760586007685676770834311957995816
def a78:O:=.co (.sy (y8,[97])) (.co (.sy (y8,[98])) (.co (.num 1 2) R3))
theorem c8x:y7 [(y8,[])] y8 c4e=.ok [(a78,0)]:=kR
theorem d0h:Q3 [.sy (y8,[97]),.sy (y8,[98]),a7l (qn (i7 [49]) (i7 [50]))]=a78:=kR
theorem e59 {U:t6} {P:E6→List Bx→Prop} {z c:Nat} {xs:List (List G)} {v:V} {K:j9 Q→Nat→Nat→Om} (hv:RV (.fr (z+1) xs) v) (hc:X1 (.fr (z+1))=c) (h:∀ t off,p5 (z+1) xs t off→j3 U (K t off xs.length) P):j3 U (U.uSl (z+1) c v K) P:=by
 cases hv with
 | fr _ _ t off len h1 h2=>subst h1;exact b8s hc (h t off h2)
theorem sIk {U:t6} {P:E6→List Bx→Prop} {k:IntKind} {x:Om} (h:j3 U x P):j3 U (U.chk (U.ikEq k k) x) P :=
 d0p (p:=True) (fun e=>by subst e;exact ⟨fun _=>trivial,fun _=>a6w k⟩) trivial h
theorem c3r:l6 45 (sp0 (.fr 2 [pg (y8,[])])):=o7 (fun fn h=>e7x h) [] .nil fun U fn hfn _ vs bs hv hb=>by
 have hv:l8 [] vs:=hv
 have hb:RBs [] bs:=hb
 show j3 U _ fun v bs'=>l7 (.ret (.fr 2 [pg (y8,[])])) v∧RBs [] bs'
 unfold r45
 (refine Zq ?_;intros)
 refine k9 ⟨.ret _ _ (.fr _ _ _ _ _ rfl (.of fun j r h=>?_)),.nil⟩
 match j,h with
 | 0,h =>
  simp at h
  subst h
  refine ⟨rfl,?_,fun g h=>by simp [pg] at h⟩
  exact .k (.s _ _ _ rfl dE) (.k (.l _ _ _ _ _ rfl (.nil _ _ _)) (.nil _ _))
 | j+1,h=>simp at h
theorem b0e:L9 [(y8,[])]:=⟨dE,fun p hp=>by cases List.mem_singleton.1 hp;decide⟩
theorem d7h {o:O} {q:Q} (h:x4 o.g q 0):o.g.length=7∧Row o.g q:=⟨O.g_len o,h,fun g e=>by have:=O.g_len o;rw [e] at this;simp at this⟩
theorem f5r {a b c:O} {x y z:Q} (h1:x4 a.g x 0) (h2:x4 b.g y 0) (h3:x4 c.g z 0):p5 7 ([a,b,c].map O.g) (.node x (.node y .nil .nil) (.node z .nil .nil)) 0:=.of fun j r h=>by
 match j,h with
 | 0,h=>simp at h;subst h;exact d7h h1
 | 1,h=>simp at h;subst h;exact d7h h2
 | 2,h=>simp at h;subst h;exact d7h h3
 | j+3,h=>simp at h
theorem b2h:l6 17 (sp0 (.c (.b true))):=o7 (fun fn h=>e4j h) [(45,_),(19,_),(47,_),(43,_),(48,_),(46,_),(22,_)] (.cons c3r (.cons d8y (.cons c06 (.cons b7q (.cons d21 (.cons d82 (.cons c41 .nil))))))) fun U fn hfn _ vs bs hv hb=>by
 have hi:=hfn 45 _ rfl
 have ho:=hfn 19 _ rfl
 have hl:=hfn 47 _ rfl
 have hs:=hfn 43 _ rfl
 have hr:=hfn 48 _ rfl
 have hL:=hfn 46 _ rfl
 have he:=hfn 22 _ rfl
 have hv:l8 [] vs:=hv
 have hb:RBs [] bs:=hb
 show j3 U _ fun v bs'=>l7 (.ret (.c (.b true))) v∧RBs [] bs'
 unfold r17
 (refine Zq ?_;intros)
 refine i6 hi () (r:=.fr 2 [pg (y8,[])]) rfl .nil .nil fun _ _ hv1 _=>?_
 refine e59 hv1 rfl fun t off ht=>?_
 (refine Zq ?_;intros)
 refine i6 ho ⟨([(y8,[])],y8,c4e),b0e,dE⟩ (r:=.t [.a a78.g,v8 0 0]) (by
  show a8z _ (y7 [(y8,[])] y8 c4e)=_
  rw [c8x];rfl) (.k (.sl _ _ _ _ _ rfl ht) (.k (.s _ _ _ rfl dE) (.k (.s _ _ _ rfl dE) .nil))) .nil fun _ _ hv2 _=>?_
 (refine Zq ?_;intros)
 rename_i x0 g0 _ _ _ _ x1 g1
 refine i6 hl ([97]:j0) (r:=.a (sg (y8,[97]))) rfl (.k (.s _ _ _ rfl dE) .nil) .nil fun _ _ hv3 _=>?_
 have hv3:RV (.a [.s y8,.s [97]]) _:=hv3
 (refine Zq ?_;intros)
 rename_i xa ga
 refine i6 hs (y8,[97]) (r:=.a (O.sy (y8,[97])).g) rfl (.k (.a _ _ _ rfl ga) .nil) .nil fun _ _ hv4 _=>?_
 refine H4 hv4 (O.g_len _) fun qa ka=>?_
 (refine Zq ?_;intros)
 refine i6 hl ([98]:j0) (r:=.a (sg (y8,[98]))) rfl (.k (.s _ _ _ rfl dE) .nil) .nil fun _ _ hv5 _=>?_
 have hv5:RV (.a [.s y8,.s [98]]) _:=hv5
 (refine Zq ?_;intros)
 rename_i xb gb
 refine i6 hs (y8,[98]) (r:=.a (O.sy (y8,[98])).g) rfl (.k (.a _ _ _ rfl gb) .nil) .nil fun _ _ hv6 _=>?_
 refine H4 hv6 (O.g_len _) fun qb kb=>?_
 (refine Zq ?_;intros)
 refine i6 hr ⟨([49],[50]),dE,dE⟩ (r:=.a (a7l (qn (i7 [49]) (i7 [50]))).g) rfl (.k (.s _ _ _ rfl dE) (.k (.s _ _ _ rfl dE) .nil)) .nil fun _ _ hv7 _=>?_
 refine H4 hv7 (O.g_len _) fun qc kc=>?_
 (refine Zq ?_;intros)
 refine i6 hL ⟨[.sy (y8,[97]),.sy (y8,[98]),a7l (qn (i7 [49]) (i7 [50]))],dE⟩ (r:=.a a78.g) (by rw [← d0h];rfl) (.k (.sl _ _ _ _ _ rfl (f5r ka kb kc)) .nil) .nil fun _ _ hv8 _=>?_
 refine H4 hv8 (O.g_len _) fun qd kd=>?_
 (refine Zq ?_;intros)
 refine sIk ?_
 (refine Zq ?_;intros)
 refine sIk ?_
 (refine Zq ?_;with_reducible repeat' first|intro _|apply aI)
 ·rename_i y0 l0 y1 l1
  refine i6 he (a78,a78) (r:=.c (.b true)) (congrArg (fun b=>t7.ret (.c (.b b))) (O.eqb_t.2 rfl)) (.k (.a _ _ _ (O.g_len _).symm l0) (.k (.a _ _ _ (O.g_len _).symm l1) .nil)) .nil fun _ _ hv9 _=>?_
  (refine Zq ?_;intros)
  exact k9 ⟨.ret _ _ (.b _),.nil⟩
 ·rename_i hh
  exact absurd ⟨rfl,rfl,trivial⟩ hh
end
end Go.Proofs.YtffaodopiifbkaaGreatDoor
