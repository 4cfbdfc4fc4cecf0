/- Texts of one claim, put together. -/
import Derived.Test.YtkbhcgifnnhbaaaGreatDoorK11
import Derived.KernelRfl
namespace Go.Proofs.YtkbhcgifnnhbaaaGreatDoor.U
open Go Go.Abs Go.Proofs.YtkbhcgifnnhbaaaGreatDoor
set_option maxRecDepth 20000
set_option maxHeartbeats 4000000
section
noncomputable abbrev B:FuncId->Option (List ResultVar×Nat×AC):=q8L TP hints
noncomputable def tab:BT (En TP B):=
 (.node 215 (j1N.en Tryz.func215 rfl rfl) (.node 92 (t92.en Tryz.func92 rfl rfl) (.node 72 (t72.en Tryz.func72 rfl rfl) (.node 22 (t22.en Tryz.func22 rfl rfl) (.node 16 (t16.en Tryz.func16 rfl rfl)
 (.node 14 (t14.en Tryz.func14 rfl rfl)
 (.node 5 (t5.en Tryz.func5 rfl rfl)
 .leaf .leaf) (.node 15 (t15.en Tryz.func15 rfl rfl)
 .leaf .leaf)) (.node 18 (t18.en Tryz.func18 rfl rfl)
 (.node 17 (t17.en Tryz.func17 rfl rfl)
 .leaf .leaf) (.node 20 (t20.en Tryz.func20 rfl rfl)
 .leaf (.node 21 (t21.en Tryz.func21 rfl rfl)
 .leaf .leaf)))) (.node 67 (t67.en Tryz.func67 rfl rfl) (.node 34 (t34.en Tryz.func34 rfl rfl)
 (.node 24 (t24.en Tryz.func24 rfl rfl)
 .leaf .leaf) (.node 65 (t65.en Tryz.func65 rfl rfl)
 .leaf (.node 66 (t66.en Tryz.func66 rfl rfl)
 .leaf .leaf))) (.node 69 (t69.en Tryz.func69 rfl rfl)
 (.node 68 (t68.en Tryz.func68 rfl rfl)
 .leaf .leaf) (.node 70 (t70.en Tryz.func70 rfl rfl)
 .leaf (.node 71 (t71.en Tryz.func71 rfl rfl)
 .leaf .leaf))))) (.node 82 (t82.en Tryz.func82 rfl rfl) (.node 77 (t77.en Tryz.func77 rfl rfl) (.node 74 (t74.en Tryz.func74 rfl rfl)
 (.node 73 (t73.en Tryz.func73 rfl rfl)
 .leaf .leaf) (.node 75 (t75.en Tryz.func75 rfl rfl)
 .leaf (.node 76 (t76.en Tryz.func76 rfl rfl)
 .leaf .leaf))) (.node 79 (t79.en Tryz.func79 rfl rfl)
 (.node 78 (t78.en Tryz.func78 rfl rfl)
 .leaf .leaf) (.node 80 (t80.en Tryz.func80 rfl rfl)
 .leaf (.node 81 (t81.en Tryz.func81 rfl rfl)
 .leaf .leaf)))) (.node 87 (t87.en Tryz.func87 rfl rfl) (.node 84 (t84.en Tryz.func84 rfl rfl)
 (.node 83 (t83.en Tryz.func83 rfl rfl)
 .leaf .leaf) (.node 85 (t85.en Tryz.func85 rfl rfl)
 .leaf (.node 86 (t86.en Tryz.func86 rfl rfl)
 .leaf .leaf))) (.node 89 (t89.en Tryz.func89 rfl rfl)
 (.node 88 (t88.en Tryz.func88 rfl rfl)
 .leaf .leaf) (.node 90 (t90.en Tryz.func90 rfl rfl)
 .leaf (.node 91 (t91.en Tryz.func91 rfl rfl)
 .leaf .leaf)))))) (.node 152 (t152.en Tryz.func152 rfl rfl) (.node 142 (j1L.en Tryz.func142 rfl rfl) (.node 104 (b1W.en Tryz.func104 rfl rfl) (.node 101 (b5C.en Tryz.func101 rfl rfl)
 (.node 93 (t93.en Tryz.func93 rfl rfl)
 .leaf .leaf) (.node 102 (b5D.en Tryz.func102 rfl rfl)
 .leaf (.node 103 (b5E.en Tryz.func103 rfl rfl)
 .leaf .leaf))) (.node 127 (t127.en Tryz.func127 rfl rfl)
 (.node 126 (b1X.en Tryz.func126 rfl rfl)
 .leaf .leaf) (.node 128 (b5F.en Tryz.func128 rfl rfl)
 .leaf (.node 141 (t141.en Tryz.func141 rfl rfl)
 .leaf .leaf)))) (.node 147 (b1Y.en Tryz.func147 rfl rfl) (.node 144 (a6L.en Tryz.func144 rfl rfl)
 (.node 143 (t143.en Tryz.func143 rfl rfl)
 .leaf .leaf) (.node 145 (t145.en Tryz.func145 rfl rfl)
 .leaf (.node 146 (t146.en Tryz.func146 rfl rfl)
 .leaf .leaf))) (.node 149 (a6M.en Tryz.func149 rfl rfl)
 (.node 148 (t148.en Tryz.func148 rfl rfl)
 .leaf .leaf) (.node 150 (j1M.en Tryz.func150 rfl rfl)
 .leaf (.node 151 (a0O.en Tryz.func151 rfl rfl)
 .leaf .leaf))))) (.node 165 (b1Z.en Tryz.func165 rfl rfl) (.node 157 (t157.en Tryz.func157 rfl rfl) (.node 154 (t154.en Tryz.func154 rfl rfl)
 (.node 153 (j0j.en Tryz.func153 rfl rfl)
 .leaf .leaf) (.node 155 (q9Y.en Tryz.func155 rfl rfl)
 .leaf (.node 156 (t156.en Tryz.func156 rfl rfl)
 .leaf .leaf))) (.node 162 (t162.en Tryz.func162 rfl rfl)
 (.node 158 (b5G.en Tryz.func158 rfl rfl)
 .leaf .leaf) (.node 163 (b5H.en Tryz.func163 rfl rfl)
 .leaf (.node 164 (t164.en Tryz.func164 rfl rfl)
 .leaf .leaf)))) (.node 170 (b5K.en Tryz.func170 rfl rfl) (.node 167 (t167.en Tryz.func167 rfl rfl)
 (.node 166 (b5I.en Tryz.func166 rfl rfl)
 .leaf .leaf) (.node 168 (t168.en Tryz.func168 rfl rfl)
 .leaf (.node 169 (b5J.en Tryz.func169 rfl rfl)
 .leaf .leaf))) (.node 172 (b2a.en Tryz.func172 rfl rfl)
 (.node 171 (t171.en Tryz.func171 rfl rfl)
 .leaf .leaf) (.node 213 (t213.en Tryz.func213 rfl rfl)
 .leaf (.node 214 (j0k.en Tryz.func214 rfl rfl)
 .leaf .leaf))))))) (.node 296 (b9c.en Tryz.func296 rfl rfl) (.node 250 (b80.en Tryz.func250 rfl rfl) (.node 233 (t233.en Tryz.func233 rfl rfl) (.node 228 (t228.en Tryz.func228 rfl rfl)
 (.node 226 (t226.en Tryz.func226 rfl rfl)
 (.node 220 (b8Z.en Tryz.func220 rfl rfl)
 .leaf .leaf) (.node 227 (t227.en Tryz.func227 rfl rfl)
 .leaf .leaf)) (.node 230 (b2b.en Tryz.func230 rfl rfl)
 (.node 229 (t229.en Tryz.func229 rfl rfl)
 .leaf .leaf) (.node 231 (j1O.en Tryz.func231 rfl rfl)
 .leaf (.node 232 (t232.en Tryz.func232 rfl rfl)
 .leaf .leaf)))) (.node 238 (b5M.en Tryz.func238 rfl rfl) (.node 235 (b5L.en Tryz.func235 rfl rfl)
 (.node 234 (t234.en Tryz.func234 rfl rfl)
 .leaf .leaf) (.node 236 (t236.en Tryz.func236 rfl rfl)
 .leaf (.node 237 (a6N.en Tryz.func237 rfl rfl)
 .leaf .leaf))) (.node 240 (z6n.en Tryz.func240 rfl rfl)
 (.node 239 (b5N.en Tryz.func239 rfl rfl)
 .leaf .leaf) (.node 241 (j1P.en Tryz.func241 rfl rfl)
 .leaf (.node 242 (b2c.en Tryz.func242 rfl rfl)
 .leaf .leaf))))) (.node 284 (b89.en Tryz.func284 rfl rfl) (.node 258 (b84.en Tryz.func258 rfl rfl) (.node 252 (b82.en Tryz.func252 rfl rfl)
 (.node 251 (b81.en Tryz.func251 rfl rfl)
 .leaf .leaf) (.node 253 (b5O.en Tryz.func253 rfl rfl)
 .leaf (.node 257 (b83.en Tryz.func257 rfl rfl)
 .leaf .leaf))) (.node 281 (b86.en Tryz.func281 rfl rfl)
 (.node 280 (b85.en Tryz.func280 rfl rfl)
 .leaf .leaf) (.node 282 (b87.en Tryz.func282 rfl rfl)
 .leaf (.node 283 (b88.en Tryz.func283 rfl rfl)
 .leaf .leaf)))) (.node 289 (b5Q.en Tryz.func289 rfl rfl) (.node 286 (b2d.en Tryz.func286 rfl rfl)
 (.node 285 (z2M.en Tryz.func285 rfl rfl)
 .leaf .leaf) (.node 287 (a6O.en Tryz.func287 rfl rfl)
 .leaf (.node 288 (b5P.en Tryz.func288 rfl rfl)
 .leaf .leaf))) (.node 291 (b5R.en Tryz.func291 rfl rfl)
 (.node 290 (b2e.en Tryz.func290 rfl rfl)
 .leaf .leaf) (.node 292 (b9a.en Tryz.func292 rfl rfl)
 .leaf (.node 293 (b9b.en Tryz.func293 rfl rfl)
 .leaf .leaf)))))) (.node 328 (b9q.en Tryz.func328 rfl rfl) (.node 314 (j1R.en Tryz.func314 rfl rfl) (.node 306 (b9g.en Tryz.func306 rfl rfl) (.node 301 (b2f.en Tryz.func301 rfl rfl)
 (.node 298 (b9d.en Tryz.func298 rfl rfl)
 .leaf .leaf) (.node 303 (b9e.en Tryz.func303 rfl rfl)
 .leaf (.node 304 (b9f.en Tryz.func304 rfl rfl)
 .leaf .leaf))) (.node 310 (b9i.en Tryz.func310 rfl rfl)
 (.node 308 (b9h.en Tryz.func308 rfl rfl)
 .leaf .leaf) (.node 312 (b9j.en Tryz.func312 rfl rfl)
 .leaf (.node 313 (j1Q.en Tryz.func313 rfl rfl)
 .leaf .leaf)))) (.node 320 (b9m.en Tryz.func320 rfl rfl) (.node 316 (a6P.en Tryz.func316 rfl rfl)
 (.node 315 (z2N.en Tryz.func315 rfl rfl)
 .leaf .leaf) (.node 318 (b9k.en Tryz.func318 rfl rfl)
 .leaf (.node 319 (b9l.en Tryz.func319 rfl rfl)
 .leaf .leaf))) (.node 325 (b9n.en Tryz.func325 rfl rfl)
 (.node 323 (b5S.en Tryz.func323 rfl rfl)
 .leaf .leaf) (.node 326 (b9o.en Tryz.func326 rfl rfl)
 .leaf (.node 327 (b9p.en Tryz.func327 rfl rfl)
 .leaf .leaf))))) (.node 340 (b9w.en Tryz.func340 rfl rfl) (.node 334 (b5T.en Tryz.func334 rfl rfl) (.node 330 (b2g.en Tryz.func330 rfl rfl)
 (.node 329 (b9r.en Tryz.func329 rfl rfl)
 .leaf .leaf) (.node 331 (b9s.en Tryz.func331 rfl rfl)
 .leaf (.node 332 (b9t.en Tryz.func332 rfl rfl)
 .leaf .leaf))) (.node 337 (j0l.en Tryz.func337 rfl rfl)
 (.node 336 (b2h.en Tryz.func336 rfl rfl)
 .leaf .leaf) (.node 338 (b9u.en Tryz.func338 rfl rfl)
 .leaf (.node 339 (b9v.en Tryz.func339 rfl rfl)
 .leaf .leaf)))) (.node 345 (b5U.en Tryz.func345 rfl rfl) (.node 342 (a0P.en Tryz.func342 rfl rfl)
 (.node 341 (b9x.en Tryz.func341 rfl rfl)
 .leaf .leaf) (.node 343 (q9Z.en Tryz.func343 rfl rfl)
 .leaf (.node 344 (b2i.en Tryz.func344 rfl rfl)
 .leaf .leaf))) (.node 347 (a0Q.en Tryz.func347 rfl rfl)
 (.node 346 (b5V.en Tryz.func346 rfl rfl)
 .leaf .leaf) (.node 348 (b5W.en Tryz.func348 rfl rfl)
 .leaf (.node 349 (a0R.en Tryz.func349 rfl rfl)
 .leaf .leaf))))))))
theorem chk:tab.all q93=true:=by kernel_rfl
end
end Go.Proofs.YtkbhcgifnnhbaaaGreatDoor.U
namespace Go.Proofs.YtkbhcgifnnhbaaaGreatDoor
open Go Go.Abs
set_option maxRecDepth 20000
section
noncomputable abbrev HA:FuncId->Option (List AV->Mem->R):=H
noncomputable abbrev EA:Env:=EX TP U.B HA
theorem b56:q07 EA:=b8n
abbrev j8R:List Nat:=[295,297,305,307,309,311,317,321,257,258,281,282,283,284]
noncomputable abbrev TA:Tb:=(b5X U.tab).less j8R
theorem a8e (f:Nat) (hf:f∉j8R):HA f=none:=by
 show H f=none;unfold H;split<;>first|rfl|exact absurd (by decide) hf
theorem j9j {T:Tb} {l:List Nat} {f:Nat} (h:(T.less l).fn f≠none):f∉l:=fun hm=>h (by
 show (match l.contains f with|true=>none|false=>T.fn f)=none
 rw[show l.contains f=true from xDi.2 hm])
theorem b6Y:TA.Ok EA (Mq EA) (Nq EA):=b1v U.chk j8R fun f hf=>a8e f (j9j hf)
noncomputable abbrev EB:Env:=EA
theorem b57:q07 EB:=b56
noncomputable abbrev TB:Tb:=TA
theorem b6Z:TB.Ok EB (Mq EB) (Nq EB):=b6Y
noncomputable abbrev HV:FuncId->Option (List AV->Mem->R):=EB.H
noncomputable abbrev EV:Env:=EB
theorem b2F:q07 EV:=b57
theorem b8p:TB.Ok EV (Mq EV) (Nq EV):=b6Z
end
end Go.Proofs.YtkbhcgifnnhbaaaGreatDoor
namespace Go.Abs
open Go
section
theorem Fr.lay {m m1:Mem} {S:List Nat} (h:Fr m m1 S) (v:Blk):Fr m (m1.lay v) S:=
 ⟨xnt0 h.1 (Nat.le_succ _),fun c hc hn=>by rw[Mem.q0J,xAa (by have:=h.1;omega)];exact h.2 c hc hn⟩
theorem Fr.put' {m m1:Mem} {S:List Nat} (h:Fr m m1 S) {b:Nat} {v:Option Blk} (hb:b∈S\/m.next<=b):Fr m (m1.put b v) S:=
 ⟨h.1,fun c hc hn=>by
  rw[Mem.get_put,xAa]
  ·exact h.2 c hc hn
  ·rintro⟨rfl,_⟩
   rcases hb with h|h
   ·exact hn h
   ·omega⟩
theorem Fr.step {m m1 m2:Mem} {S T:List Nat} (h:Fr m m1 S) (h':Fr m1 m2 T) (hT:∀c,c∈T->c∈S\/m.next<=c):Fr m m2 S:=
 ⟨xnt0 h.1 h'.1,fun c hc hn=>by
  rw[h'.2 c (xCc hc h.1),h.2 c hc hn];intro hm;rcases hT c hm with h|h
  ·exact hn h
  ·omega⟩
theorem Fr.step0 {m m1 m2:Mem} {S:List Nat} (h:Fr m m1 S) (h':Fr m1 m2 []):Fr m m2 S:=h.step h' (by simp)
theorem Fr.any {m m1:Mem} (S:List Nat) (h:Fr m m1 []):Fr m m1 S:=h.mono (by simp)
theorem Fr.next {m m1:Mem} {S:List Nat} (h:Fr m m1 S):m.next<=m1.next:=h.1
theorem Fr.refl' (m:Mem) (S:List Nat):Fr m m S:=(Fr.refl m).any S
section flat
variable {n:Nat}
theorem q1F:∀{l:List (List AV)},(∀x∈l,x.length=n)->l.flatten.length=l.length*n
 |[],_=>by simp
 |x::l,h=>by
  rw[xCb,xla0,q1F (fun y hy=>h y (xBa _ hy)),h x xmc,xAi,xCi];omega
theorem q3a:∀{l:List (List AV)} (i:Nat),(∀x∈l,x.length=n)->l.flatten.drop (i*n)=(l.drop i).flatten
 |l,0,_=>by simp
 |[],i+1,_=>by simp
 |x::l,i+1,h=>by
  rw[xCb,List.drop_append,xDd (by rw[h x xmc,xCi];omega),xAm,h x xmc,xCi,xFc];exact q3a i (fun y hy=>h y (xBa _ hy))
theorem q81:∀{l:List (List AV)} (i:Nat),(∀x∈l,x.length=n)->l.flatten.take (i*n)=(l.take i).flatten
 |l,0,_=>by simp
 |[],i+1,_=>by simp
 |x::l,i+1,h=>by
  rw[xCb,List.take_append,xtl (by rw[h x xmc,xCi];omega),h x xmc,xCi,xFc];rw[q81 i (fun y hy=>h y (xBa _ hy)),xBk,xCb]
theorem a2b {l:List (List AV)} (h:∀x∈l,x.length=n) {i:Nat} (hi:i<l.length):(l.flatten.drop (i*n)).take n=l[i]:=by
 rw[q3a i h,xAk hi,xCb,List.take_append,xtl (by rw[h _ (xAf hi)];exact xnr _),h _ (xAf hi),xFu,xBp,xBe]
theorem z9e {l:List (List AV)} (h:∀x∈l,x.length=n) {i:Nat} (hi:i<l.length) (v:List AV):l.flatten.take (i*n)++v++l.flatten.drop (i*n+n)=(l.set i v).flatten:=by
 rw[show i*n+n=(i+1)*n by rw[xCi],q81 i h,q3a (i+1) h,List.set_eq_take_append_cons_drop,xAb hi,xDs,xCb,xAg]
theorem z3S {l:List (List AV)} (h:∀x∈l,x.all AV.one=true):l.flatten.all AV.one=true:=by
 rw[xBd];intro v hv;obtain⟨x,hx,hv⟩:=List.mem_flatten.1 hv;exact xBd.1 (h x hx) v hv
theorem q80:∀{l:List AV},(l.map fun x=>[x]).flatten=l
 |[]=>rfl
 |x::l=>by rw[xBf,xCb,q80];rfl
end flat
def q08 (n:Nat) (m:Mem) (s:AV) (l:List (List AV)) (rb:Option Nat):Prop:=
 (∀x∈l,x.length=n/\x.all AV.one=true)/\
 (((l=[]/\rb=none/\∃sz ex,s=.sl none sz 0 0 ex)\/∃b,l=[]/\rb=some b/\s=.sl (some ⟨b,0⟩) n 0 0 true/\m.get b=some (.cells [] false))\/
  ∃b,rb=some b/\s=.sl (some ⟨b,0⟩) n l.length l.length false/\m.get b=some (.cells l.flatten false))
theorem q08.nil (n:Nat) (m:Mem) (sz:Nat) (ex:Bool):q08 n m (.sl none sz 0 0 ex) [] none:=⟨by simp,.inl (.inl ⟨rfl,rfl,_,_,rfl⟩)⟩
theorem q08.lit (n:Nat) {m:Mem} {b:Nat} (h:m.get b=some (.cells [] false)):q08 n m (.sl (some ⟨b,0⟩) n 0 0 true) [] (some b):=⟨by simp,.inl (.inr ⟨b,rfl,rfl,rfl,h⟩)⟩
theorem q08.lens {n:Nat} {m:Mem} {s:AV} {l:List (List AV)} {rb:Option Nat} (h:q08 n m s l rb):∀x∈l,x.length=n:=fun x hx=>(h.1 x hx).1
theorem q08.frame {n:Nat} {m m':Mem} {s:AV} {l:List (List AV)} {rb:Option Nat} {S:List Nat} (h:q08 n m s l rb) (hf:Fr m m' S) (hd:∀b,rb=some b->b∉S):q08 n m' s l rb:=by
 rcases h with ⟨h0,(h|⟨b,e,h1,h2,h3⟩)|⟨b,h1,h2,h3⟩⟩
 ·exact⟨h0,.inl (.inl h)⟩
 ·exact⟨h0,.inl (.inr ⟨b,e,h1,h2,hf.get h3 (hd b h1)⟩)⟩
 ·exact⟨h0,.inr ⟨b,h1,h2,hf.get h3 (hd b h1)⟩⟩
theorem q08.lt {n:Nat} {m:Mem} {s:AV} {l:List (List AV)} {b:Nat} (h:q08 n m s l (some b)):b<m.next:=by
 rcases h with ⟨_,(⟨_,h,_⟩|⟨b',_,h1,_,h3⟩)|⟨b',h1,h2,h3⟩⟩
 ·cases h
 ·cases h1;exact Mem.q0u h3
 ·cases h1;exact Mem.q0u h3
theorem q08.len {n:Nat} {m:Mem} {s:AV} {l:List (List AV)} {rb:Option Nat} (h:q08 n m s l rb):∃a sz cap ex,s=.sl a sz l.length cap ex:=by
 rcases h with ⟨_,(⟨rfl,_,sz,ex,rfl⟩|⟨b,rfl,_,rfl,_⟩)|⟨b,_,rfl,_⟩⟩
 ·exact⟨_,_,_,_,rfl⟩
 ·exact⟨_,_,_,_,rfl⟩
 ·exact⟨_,_,_,_,rfl⟩
theorem q08.one {n:Nat} {m:Mem} {s:AV} {l:List (List AV)} {rb:Option Nat} (h:q08 n m s l rb):s.one=true:=by
 obtain⟨a,sz,cap,ex,rfl⟩:=h.len;rfl
theorem q08.at {n:Nat} {m:Mem} {s:AV} {l:List (List AV)} {rb:Option Nat} (h:q08 n m s l rb) {i:Nat} (hi:i<l.length) :
  ∃b,rb=some b/\s=.sl (some ⟨b,0⟩) n l.length l.length false/\m.get b=some (.cells l.flatten false)/\ixA n l.length ⟨b,0⟩ (i:Int)=some (.ptr (some ⟨b,i*n⟩))/\q0C m ⟨b,i*n⟩ n=some l[i]:=by
 have hl:=h.lens;rcases h with ⟨h0,(⟨rfl,_⟩|⟨_,rfl,_⟩)|⟨b,h1,h2,h3⟩⟩
 ·simp at hi
 ·simp at hi
 ·refine⟨b,h1,h2,h3,by simp[ixA,hi],?_⟩;have:(i+1)*n<=l.length*n:=xAo n hi;rw[xCi]at this;simp only[q0C,h3];rw[xAb (by rw[q1F hl];exact this),a2b hl hi]
theorem q08.st {n:Nat} {m:Mem} {s:AV} {l:List (List AV)} {rb:Option Nat} (h:q08 n m s l rb) {i:Nat} (hi:i<l.length) {v:List AV} (hv:v.length=n) (ho:v.all AV.one=true) :
  ∃b,rb=some b/\q1l m ⟨b,i*n⟩ v=some (m.put b (some (.cells (l.set i v).flatten false)))/\q08 n (m.put b (some (.cells (l.set i v).flatten false))) s (l.set i v) rb:=by
 have hl:=h.lens;obtain⟨b,h1,h2,h3,_,_⟩:=h.at hi;refine⟨b,h1,?_,fun x hx=>?_,.inr ⟨b,h1,by simpa using h2,by rw[Mem.get_put,xAb ⟨rfl,Mem.q0u h3⟩]⟩⟩
 ·have:(i+1)*n<=l.length*n:=xAo n hi;rw[xCi]at this;simp only[q1l,h3];rw[xAb (by rw[q1F hl,hv];exact this),hv,z9e hl hi]
 ·rcases xDf hx with hx|rfl
  ·exact h.1 x hx
  ·exact⟨hv,ho⟩
section lb
variable {κ:Type} {lt:κ->κ->Bool}
def lb (lt:κ->κ->Bool) (k:κ) (ks:List κ):Nat:=(ks.takeWhile (lt · k)).length
def Srt (lt:κ->κ->Bool) (ks:List κ):Prop:=ks.Pairwise fun a b=>lt a b=true
theorem j03 (k:κ) (ks:List κ):lb lt k ks<=ks.length:=by
 unfold lb;have:=(List.takeWhile_prefix (p:=(lt · k)) (l:=ks)).length_le;exact this
theorem q6T {k:κ}:∀{ks:List κ} {i:Nat},i<=ks.length->(∀j (h:j<ks.length),j<i->lt ks[j] k=true)->(∀(h:i<ks.length),lt ks[i] k=false)->lb lt k ks=i
 |[],i,hi,_,_=>by have:i=0:=by simpa using hi
                  subst this;rfl
 |a::ks,0,_,_,h2=>by
  have:=h2 (by simp);simp only[xDv]at this;simp[lb,xCt,this]
 |a::ks,i+1,hi,h1,h2=>by
  have h0:=h1 0 (by simp) (by omega);simp only[xDv]at h0;have ih:=q6T (k:=k) (ks:=ks) (i:=i) (by simpa using hi) (fun j h hj=>h1 (j+1) (by simpa using h) (by omega)) (fun h=>h2 (by simpa using h))
  unfold lb at ih⊢;rw[xCt,xAb h0,xAi,ih]
theorem q8l {k:κ}:∀{ks:List κ} {j:Nat} (h:j<ks.length),j<lb lt k ks->lt ks[j] k=true
 |a::ks,j,h,hj=>by
  unfold lb at hj;rw[xCt]at hj;split at hj
  ·rename_i ha;cases j with
   |zero=>simpa using ha
   |succ j=>simpa using q8l (k:=k) (ks:=ks) (j:=j) (by simpa using h) (by unfold lb;simpa using hj)
  ·simp at hj
theorem a3y {k:κ}:∀{ks:List κ} (h:lb lt k ks<ks.length),lt (ks[lb lt k ks]'h) k=false
 |[],h=>by simp at h
 |a::ks,h=>by
  by_cases ha:lt a k=true
  ·have e:lb lt k (a::ks)=lb lt k ks+1:=by unfold lb;rw[xCt,xAb ha];rfl
   simp only[e,xEz];exact a3y (ks:=ks) (by rw[e]at h;simpa using h)
  ·have e:lb lt k (a::ks)=0:=by unfold lb;rw[xCt,xAa ha];rfl
   simp only[e,xDv];simpa using ha
def q1u [DecidableEq κ] (lt:κ->κ->Bool) (k:κ) (ks:List κ):Bool:=decide (ks[lb lt k ks]? = some k)
def q7P {α:Type} (i:Nat) (x:α) (l:List α):List α:=l.take i++x::l.drop i
theorem z9G {α:Type} {i:Nat} {x:α} {l:List α} (hi:i<=l.length):(q7P i x l).length=l.length+1:=by simp[q7P];omega
theorem q5k {ks:List κ} (h:Srt lt ks) {i j:Nat} (hij:i<j) (hj:j<ks.length):lt (ks[i]'(by omega)) ks[j]=true:=List.pairwise_iff_getElem.1 h i j (by omega) hj hij
theorem b4K [DecidableEq κ] (hir:∀a,lt a a=false) {k:κ} {ks:List κ} (hs:Srt lt ks):q1u lt k ks=decide (k∈ks):=by
 unfold q1u;rw[xDl,decide_eq_true_iff,decide_eq_true_iff];constructor
 ·intro h;exact xCa h
 ·intro h;obtain⟨i,hi,rfl⟩:=xBg.1 h;have:lb lt ks[i] ks=i:=q6T (Nat.le_of_lt hi) (fun j h hj=>q5k hs hj hi) (fun _=>hir _)
  rw[this,xgq hi]
theorem a6C (htr:∀a b c,lt a b=true->lt b c=true->lt a c=true) (htot:∀a b,lt a b=false->lt b a=false->a=b) {k:κ} {ks:List κ} (hs:Srt lt ks) (hk:k∉ks):Srt lt (q7P (lb lt k ks) k ks):=by
 unfold Srt q7P;rw[List.pairwise_append];refine⟨List.Pairwise.sublist (List.take_sublist _ _) hs,?_,?_⟩
 ·rw[xEd];refine⟨fun a ha=>?_,List.Pairwise.sublist (List.drop_sublist _ _) hs⟩
  obtain⟨i,hi,rfl⟩:=xBg.1 ha;simp only[xld0]at hi;rw[List.getElem_drop];have hl:lb lt k ks<ks.length:=by omega
  have h0:lt k (ks[lb lt k ks]'hl)=true:=by
   cases h:lt k (ks[lb lt k ks]'hl) with
   |true=>rfl
   |false=>exact absurd (htot _ _ h (a3y hl)) (fun e=>hk (by rw[e];exact xAf hl))
  cases i with
  |zero=>simpa using h0
  |succ i=>exact htr _ _ _ h0 (q5k hs (by omega) (by omega))
 ·intro a ha b hb;obtain⟨i,hi,rfl⟩:=xBg.1 ha;simp only[xlt0]at hi;rw[List.getElem_take];have h1:lt (ks[i]'(by omega)) k=true:=q8l (by omega) (by omega);rw[xmk0]at hb;rcases hb with rfl|hb
  ·exact h1
  ·obtain⟨j,hj,rfl⟩:=xBg.1 hb;simp only[xld0]at hj;rw[List.getElem_drop];exact q5k hs (by omega) (by omega)
end lb
theorem q1h:∀a:List UInt8,q0g a a=false
 |[]=>rfl
 |a::l=>by simp[q0g,q1h l]
theorem q6h:∀a b:List UInt8,q0g a b=false->q0g b a=false->a=b
 |[],[],_,_=>rfl
 |[],_::_,h,_=>by simp[q0g]at h
 | _::_,[],_,h=>by simp[q0g]at h
 |a::x,b::y,h1,h2=>by
  simp only[q0g,xFp,xCl,xEh]at h1 h2;have e:a=b:=by
   have:=h1.1;have:=h2.1;exact UInt8.le_antisymm (by simpa using h2.1) (by simpa using h1.1)
  subst e;rw[q6h x y (by simpa using h1.2) (by simpa using h2.2)]
theorem q1Y:∀a b c:List UInt8,q0g a b=true->q0g b c=true->q0g a c=true
 | _,[],_,h,_=>by simp[q0g]at h
 | _,_::_,[],_,h=>by simp[q0g]at h
 |[],_::_,_::_,_,_=>rfl
 |a::x,b::y,c::z,h1,h2=>by
  simp only[q0g,xDu,xAc,xAj]at h1 h2⊢;rcases h1 with h1|⟨rfl,h1⟩
  ·rcases h2 with h2|⟨rfl,h2⟩
   ·exact .inl (UInt8.lt_trans h1 h2)
   ·exact .inl h1
  ·rcases h2 with h2|⟨rfl,h2⟩
   ·exact .inl h2
   ·exact .inr ⟨rfl,q1Y x y z h1 h2⟩
def q0F (a b:Int):Bool:=decide (a<b)
theorem q9k (a:Int):q0F a a=false:=by simp[q0F]
theorem z14 (a b c:Int) (h:q0F a b=true) (h':q0F b c=true):q0F a c=true:=by simp[q0F]at h h'⊢;omega
section bin
variable {P:Program}
theorem a8r (t:TypeId) (k:IntKind) (x y:Int):q0E P .geq t (.int k x) (.int k y)=some (.bool (decide (y<=x))):=by simp[q0E,q6i]
theorem j3J (t:TypeId) (k:IntKind) (x y:Int):q0E P .gtr t (.int k x) (.int k y)=some (.bool (decide (y<x))):=by simp[q0E,q6i]
theorem j3K (t:TypeId) (k:IntKind) (x y:Int):q0E P .lss t (.int k x) (.int k y)=some (.bool (decide (x<y))):=by simp[q0E,q6i]
theorem a8s (t:TypeId) (k:IntKind) (x y:Int):q0E P .leq t (.int k x) (.int k y)=some (.bool (decide (x<=y))):=by simp[q0E,q6i]
theorem a8q (t:TypeId) (k:IntKind) (x y:Int):q0E P .eql t (.int k x) (.int k y)=some (.bool (decide (x=y))):=by simp[q0E,q6i];rfl
theorem a8t (t:TypeId) (k:IntKind) (x y:Int):q0E P .neq t (.int k x) (.int k y)=some (.bool (!decide (x=y))):=by simp[q0E,q6i,bne];rfl
theorem a8p (t:TypeId) (k:IntKind) (x y:Int):q0E P .add t (.int k x) (.int k y)=some (.int k (k.wrap (x+y))):=by simp[q0E,q6i]
theorem a8v (t:TypeId) (k:IntKind) (x y:Int):q0E P .sub t (.int k x) (.int k y)=some (.int k (k.wrap (x-y))):=by simp[q0E,q6i]
theorem j3L (t:TypeId) (k:IntKind) (x y:Int):q0E P .mul t (.int k x) (.int k y)=some (.int k (k.wrap (x*y))):=by simp[q0E,q6i]
theorem q2f (t:TypeId) (k:IntKind) (x y:Int) (h:y≠0):q0E P .rem t (.int k x) (.int k y)=some (.int k (x.tmod y)):=by simp[q0E,q6i,h]
theorem q4t (t:TypeId) (k:IntKind) (x y:Int) (h:y≠0):q0E P .quo t (.int k x) (.int k y)=some (.int k (k.wrap (x.tdiv y))):=by simp[q0E,q6i,h]
theorem q8I (t:TypeId) (k k':IntKind) (x y:Int) (h:0<=y):q0E P .shr t (.int k x) (.int k' y)=some (.int k (x.fdiv (2 ^ (min y.toNat k.bits)))):=by
 simp only[q0E,shA];rw[xAa (by omega)]
theorem a1B (t:TypeId) (x y:List UInt8):q0E P .lss t (.str x) (.str y)=some (.bool (q0g x y)):=rfl
theorem q7l (x y:List UInt8):(x==y)=decide (x=y):=by rw[xDl];simp
theorem a1z (t:TypeId) (x y:List UInt8):q0E P .eql t (.str x) (.str y)=some (.bool (decide (x=y))):=by simp only[q0E,b1V,q7l]
theorem a1C (t:TypeId) (x y:List UInt8):q0E P .neq t (.str x) (.str y)=some (.bool (!decide (x=y))):=by simp only[q0E,b1V,q7l]
theorem a1A (t:TypeId) (x y:List UInt8):q0E P .geq t (.str x) (.str y)=some (.bool (!q0g x y)):=rfl
end bin
theorem wrap_u64 {x:Int} (h1:0<=x) (h2:x<18446744073709551616):IntKind.wrap .u64 x=x:=by
 have e:IntKind.wrap .u64 x=x % 18446744073709551616:=by simp[IntKind.wrap,IntKind.bits,IntKind.signed]
 rw[e];omega
theorem z6i (x:Int):IntKind.wrap .u64 x=x % 18446744073709551616:=by simp[IntKind.wrap,IntKind.bits,IntKind.signed]
theorem q3k {x:AV} (h:x.one=true):x.cells=some [x]:=by cases x<;>first|rfl|(simp[AV.one]at h)
theorem q0e {m:Mem} {b o:Nat} {cs:List AV} {ro:Bool} (h:m.get b=some (.cells cs ro)):ld1 m (.ptr (some ⟨b,o⟩))=cs[o]?:=by simp only[ld1,h]
theorem q1b {m:Mem} {b o n:Nat} {cs:List AV} {ro:Bool} (h:m.get b=some (.cells cs ro)) (hl:o+n<=cs.length):ldN m (.ptr (some ⟨b,o⟩)) n=some (.agg ((cs.drop o).take n)):=by simp[ldN,q0C,h,hl]
theorem q1B {m:Mem} {b o n:Nat} {cs vs:List AV} {v:AV} (h:m.get b=some (.cells cs false)) (hv:v.cells=some vs) (hn:vs.length=n) (hl:o+n<=cs.length) :
  stV m (.ptr (some ⟨b,o⟩)) v n=some (m.put b (some (.cells (cs.take o++vs++cs.drop (o+n)) false))):=by
 subst hn;simp only[stV,hv,xAd,q1l,h,xAb hl]
theorem q3y {cs:List AV} (h:cs.all AV.one=true):(AV.agg cs).cells=some cs:=by simp only[AV.cells,h,xAd]
theorem q0x {m:Mem} {b:Nat} {v:Blk} {w:Option Blk} (h:m.get b=some v):(m.put b w).get b=w:=by rw[Mem.get_put,xAb ⟨rfl,Mem.q0u h⟩]
theorem z9T {m:Mem} {b c:Nat} {w:Option Blk} (h:c≠b):(m.put b w).get c=m.get c:=by rw[Mem.get_put,xAa fun e=>h e.1]
theorem q0k (m:Mem) (v:Blk):(m.lay v).get m.next=some v:=by rw[Mem.q0J,xAb rfl]
theorem b4P (a:AV) (l:List AV):nth (a::l) 0=a:=rfl
theorem b4Q (a b:AV) (l:List AV):nth (a::b::l) 1=b:=rfl
theorem b4R (a b c:AV) (l:List AV):nth (a::b::c::l) 2=c:=rfl
theorem b4S (a b c d:AV) (l:List AV):nth (a::b::c::d::l) 3=d:=rfl
theorem j3Q {cs:List AV} (h:cs.all AV.one=true):q00 (.agg cs)=some (.cells cs false,fun b=>.ptr (some ⟨b,0⟩)):=by simp[q00,q3y h]
theorem q40 {n:Nat} {zs cs:List AV} (h:cs.all AV.one=true) (hn:cs.length=n) (hz:zs.length=n):bsA n 1 zs [(0,.agg cs)]=some (.cells cs false,fun b=>.sl (some ⟨b,0⟩) n 1 1 true):=by
 simp[bsA,q0p,q3y h,hn,hz]
theorem z6A {x z:AV} (h:x.one=true):bsA 1 1 [z] [(0,x)]=some (.cells [x] false,fun b=>.sl (some ⟨b,0⟩) 1 1 1 true):=by
 simp[bsA,q0p,q3k h]
theorem j9b {m:Mem} {c:Nat} {v:Blk} (h:c≠m.next):(m.lay v).get c=m.get c:=by rw[Mem.q0J,xAa h]
end
end Go.Abs
section
namespace Go.Abs
open Go
def b2j (t:Nat) (kb vb:Option Nat):List Nat:=t::(kb.toList++vb.toList)
structure TabAt {κ:Type} (ek:κ->AV) (n:Nat) (m:Mem) (t:Nat) (ks:List κ) (vs:List (List AV)) (most:Int) (F:List Nat):Prop where
 ex:∃sk sv kb vb,m.get t=some (.cells [sk,sv,.int .i64 most] false)/\q08 1 m sk (ks.map fun k=>[ek k]) kb/\q08 n m sv vs vb/\kb≠some t/\vb≠some t/\(∀b,kb=some b->vb≠some b)/\F=b2j t kb vb
 len:vs.length=ks.length
section
variable {κ:Type} {ek:κ->AV} {n:Nat} {m m':Mem} {t:Nat} {ks:List κ} {vs:List (List AV)} {most:Int} {F S:List Nat}
theorem TabAt.frame (h:TabAt ek n m t ks vs most F) (hf:Fr m m' S) (hd:∀c,c∈F->c∉S):TabAt ek n m' t ks vs most F:=by
 obtain⟨⟨sk,sv,kb,vb,h1,h2,h3,h4,h5,h6,rfl⟩,h7⟩:=h;refine⟨⟨sk,sv,kb,vb,hf.get h1 (hd _ (by simp[b2j])),h2.frame hf fun b hb=>hd _ ?_,h3.frame hf fun b hb=>hd _ ?_,h4,h5,h6,rfl⟩,h7⟩
 ·subst hb;simp[b2j]
 ·subst hb;simp[b2j]
theorem TabAt.lt (h:TabAt ek n m t ks vs most F):∀c,c∈F->c<m.next:=by
 obtain⟨⟨sk,sv,kb,vb,h1,h2,h3,_,_,_,rfl⟩,_⟩:=h;intro c hc;simp only[b2j,xmk0,xma,xAw]at hc;rcases hc with rfl|hc|hc
 ·exact Mem.q0u h1
 ·have e:kb=some c:=hc;subst e;exact h2.lt
 ·have e:vb=some c:=hc;subst e;exact h3.lt
theorem TabAt.new (hb:m.get t=some (.cells [.sl none 0 0 0 true,.sl none 0 0 0 true,.int .i64 most] false)):TabAt ek n m t [] [] most [t]:=
 ⟨⟨_,_,none,none,hb,q08.nil 1 m 0 true,q08.nil n m 0 true,by simp,by simp,by simp,rfl⟩,rfl⟩
theorem TabAt.set (h:TabAt ek n m t ks vs most F) {i:Nat} (hi:i<ks.length) {v:List AV} (hv:v.length=n) (ho:v.all AV.one=true) :
  ∃sk sv b m',m.get t=some (.cells [sk,sv,.int .i64 most] false)/\sv=.sl (some ⟨b,0⟩) n vs.length vs.length false/\ixA n vs.length ⟨b,0⟩ (i:Int)=some (.ptr (some ⟨b,i*n⟩))/\stV m (.ptr (some ⟨b,i*n⟩)) (.agg v) n=some m'/\TabAt ek n m' t ks (vs.set i v) most F/\Fr m m' F:=by
 obtain⟨⟨sk,sv,kb,vb,h1,h2,h3,h4,h5,h6,rfl⟩,h7⟩:=h;have hi':i<vs.length:=by omega
 obtain⟨b,g1,g2,g3,g4,g5⟩:=h3.at hi';obtain⟨b',e1,e2,e3⟩:=h3.st hi' hv ho;rw[g1]at e1;cases e1;subst g1;refine⟨sk,sv,b,_,h1,g2,g4,?_,⟨⟨sk,sv,kb,some b,?_,?_,e3,h4,h5,h6,rfl⟩,by simpa using h7⟩,?_⟩
 ·simp only[stV,q3y ho,hv,xAd,e2]
 ·rw[z9T (by rintro rfl;exact h5 rfl)];exact h1
 ·exact h2.frame (Fr.put m b _) fun c hc hm=>by simp only[xms]at hm;subst hm;exact h6 _ hc rfl
 ·exact(Fr.put m b _).mono fun c hc _=>by simp only[xms]at hc;subst hc;simp[b2j]
end
end Go.Abs
namespace Go.Abs
open Go
theorem q08.key {κ:Type} {ek:κ->AV} {m:Mem} {s:AV} {ks:List κ} {rb:Option Nat} (h:q08 1 m s (ks.map fun k=>[ek k]) rb) {i:Nat} (hi:i<ks.length) :
  ∃b,s=.sl (some ⟨b,0⟩) 1 ks.length ks.length false/\ixA 1 ks.length ⟨b,0⟩ (i:Int)=some (.ptr (some ⟨b,i⟩))/\ld1 m (.ptr (some ⟨b,i⟩))=some (ek ks[i]):=by
 obtain⟨b,_,h2,h3,h4,_⟩:=h.at (i:=i) (by simpa using hi);have e:(ks.map fun k=>[ek k]).flatten=ks.map ek:=by
  rw[<-q80 (l:=ks.map ek),List.map_map];rfl
 refine⟨b,by simpa using h2,by simpa using h4,?_⟩;rw[q0e h3,e,xBi,xgq hi];rfl
theorem q08.val {n:Nat} {m:Mem} {s:AV} {vs:List (List AV)} {rb:Option Nat} (h:q08 n m s vs rb) {i:Nat} (hi:i<vs.length) :
  ∃b,s=.sl (some ⟨b,0⟩) n vs.length vs.length false/\ixA n vs.length ⟨b,0⟩ (i:Int)=some (.ptr (some ⟨b,i*n⟩))/\ldN m (.ptr (some ⟨b,i*n⟩)) n=some (.agg vs[i]):=by
 obtain⟨b,_,h2,_,h4,h5⟩:=h.at hi;exact⟨b,h2,h4,by simp[ldN,h5]⟩
theorem q0X {m:Mem} {b n:Nat} {v:List AV} {ro:Bool} (h:m.get b=some (.cells v ro)) (hv:v.length=n):ldN m (.ptr (some ⟨b,0⟩)) n=some (.agg v):=by
 rw[q1b h (by omega),xAp,xtl (by omega)]
theorem q14 {m:Mem} {b n:Nat} {cs v:List AV} (h:m.get b=some (.cells cs false)) (hc:cs.length=n) (hv:v.length=n) (ho:v.all AV.one=true):stV m (.ptr (some ⟨b,0⟩)) (.agg v) n=some (m.put b (some (.cells v false))):=by
 rw[q1B h (q3y ho) hv (by omega),xBp,xAm,xDd (by omega),xBe]
end Go.Abs
end
namespace Go.Abs
open Go
section
structure Wd where
 hi:Int
 lo:Int
 deriving DecidableEq
def Wd.cells (w:Wd):List AV:=[.int .i64 w.hi,.int .u64 w.lo]
structure q0v where
 name:List UInt8
 scale:Int
 out:Wd
 deriving DecidableEq
def q0v.cells (p:q0v):List AV:=[.str p.name,.int .i64 p.scale,.int .i64 p.out.hi,.int .u64 p.out.lo]
structure q0D where
 x:List UInt8
 y:List UInt8
 rate:Wd
 q0V:Int
 inx:Wd
 q2I:Wd
 deriving DecidableEq
def q0D.cells (p:q0D):List AV:=[.str p.x,.str p.y,.int .i64 p.rate.hi,.int .u64 p.rate.lo,.int .i64 p.q0V,.int .i64 p.inx.hi,.int .u64 p.inx.lo,.int .i64 p.q2I.hi,.int .u64 p.q2I.lo]
def q0D.key (p:q0D):List UInt8:=p.x++p.y
structure q1v where
 id:Int
 q1U:List UInt8
 bal:Wd
 deriving DecidableEq
def q1v.cells (a:q1v):List AV:=[.int .u64 a.id,.str a.q1U,.int .i64 a.bal.hi,.int .u64 a.bal.lo]
structure LSt where
 q0d:List q0v
 pairs:List q0D
 q0s:List q1v
 latest:Int
 most:Int
@[simp] theorem q0v.z3o (p:q0v):p.cells.length=4:=rfl
@[simp] theorem q0D.z3o (p:q0D):p.cells.length=9:=rfl
@[simp] theorem q1v.z3o (p:q1v):p.cells.length=4:=rfl
def Dj (a b:List Nat):Prop:=∀c,c∈a->c∉b
theorem Dj.symm {a b:List Nat} (h:Dj a b):Dj b a:=fun c h1 h2=>h c h2 h1
theorem Dj.step {a a' b:List Nat} {n:Nat} (h:Dj a b) (ha:∀c,c∈a'->c∈a\/n<=c) (hb:∀c,c∈b->c<n):Dj a' b:=fun c h1 h2=>by
 rcases ha c h1 with h3|h3
 ·exact h c h3 h2
 ·have:=hb c h2;omega
structure q1E (m:Mem) (b:Nat) (st:LSt) (F:List Nat):Prop where
 ex:∃tp tq ta FP FQ FA,m.get b=some (.cells [.int .i64 st.most,.ptr (some ⟨tp,0⟩),.ptr (some ⟨tq,0⟩),.ptr (some ⟨ta,0⟩),.int .u64 st.latest] false)/\
  TabAt .str 4 m tp (st.q0d.map (·.name)) (st.q0d.map (·.cells)) 8 FP/\TabAt .str 9 m tq (st.pairs.map (·.key)) (st.pairs.map (·.cells)) 64 FQ/\
  TabAt (.int .u64) 4 m ta (st.q0s.map (·.id)) (st.q0s.map (·.cells)) st.most FA/\b∉FP/\b∉FQ/\b∉FA/\Dj FP FQ/\Dj FP FA/\Dj FQ FA/\F=b::(FP++FQ++FA)
section
variable {m m':Mem} {b:Nat} {st:LSt} {F S:List Nat}
theorem q1E.frame (h:q1E m b st F) (hf:Fr m m' S) (hd:∀c,c∈F->c∉S):q1E m' b st F:=by
 obtain⟨tp,tq,ta,FP,FQ,FA,h1,h2,h3,h4,h5,h6,h7,h8,h9,h10,rfl⟩:=h.ex;exact⟨tp,tq,ta,FP,FQ,FA,hf.get h1 (hd _ (by simp)),h2.frame hf (fun c hc=>hd c (by simp[hc])),h3.frame hf (fun c hc=>hd c (by simp[hc])),h4.frame hf (fun c hc=>hd c (by simp[hc])),h5,h6,h7,h8,h9,h10,rfl⟩
theorem q1E.q0m (h:q1E m b st F) (hf:Fr m m' []):q1E m' b st F:=h.frame hf (by simp)
theorem q1E.lt (h:q1E m b st F):∀c,c∈F->c<m.next:=by
 obtain⟨tp,tq,ta,FP,FQ,FA,h1,h2,h3,h4,h5,h6,h7,h8,h9,h10,rfl⟩:=h.ex;intro c hc;simp only[xmk0,xma]at hc;rcases hc with rfl|(hc|hc)|hc
 ·exact Mem.q0u h1
 ·exact h2.lt c hc
 ·exact h3.lt c hc
 ·exact h4.lt c hc
theorem q1E.q0d {tp tq ta:Nat} {FP FQ FA FP':List Nat} {ps:List q0v}
  (h1:m.get b=some (.cells [.int .i64 st.most,.ptr (some ⟨tp,0⟩),.ptr (some ⟨tq,0⟩),.ptr (some ⟨ta,0⟩),.int .u64 st.latest] false))
  (h2:TabAt .str 4 m tp (st.q0d.map (·.name)) (st.q0d.map (·.cells)) 8 FP) (h3:TabAt .str 9 m tq (st.pairs.map (·.key)) (st.pairs.map (·.cells)) 64 FQ) (h4:TabAt (.int .u64) 4 m ta (st.q0s.map (·.id)) (st.q0s.map (·.cells)) st.most FA)
  (h5:b∉FP) (h6:b∉FQ) (h7:b∉FA) (h8:Dj FP FQ) (h9:Dj FP FA) (h10:Dj FQ FA)
  (hf:Fr m m' FP) (ht:TabAt .str 4 m' tp (ps.map (·.name)) (ps.map (·.cells)) 8 FP') (hs:∀c,c∈FP'->c∈FP\/m.next<=c) :
  ∃F',q1E m' b {st with q0d:=ps} F'/\Fr m m' (b::(FP++FQ++FA))/\∀c,c∈F'->c∈b::(FP++FQ++FA)\/m.next<=c:=by
 refine⟨b::(FP'++FQ++FA),⟨tp,tq,ta,FP',FQ,FA,hf.get h1 h5,ht,h3.frame hf h8.symm,h4.frame hf h9.symm,?_,h6,h7,h8.step hs h3.lt,h9.step hs h4.lt,h10,rfl⟩,hf.mono (by simp +contextual),?_⟩
 ·intro hb;rcases hs b hb with h|h
  ·exact h5 h
  ·have:=Mem.q0u h1;omega
 ·intro c hc;simp only[xmk0,xma]at hc⊢;rcases hc with rfl|(hc|hc)|hc
  ·exact .inl (.inl rfl)
  ·rcases hs c hc with h|h
   ·exact .inl (.inr (.inl (.inl h)))
   ·exact .inr h
  ·exact .inl (.inr (.inl (.inr hc)))
  ·exact .inl (.inr (.inr hc))
theorem q1E.q0s {tp tq ta:Nat} {FP FQ FA FA':List Nat} {az:List q1v}
  (h1:m.get b=some (.cells [.int .i64 st.most,.ptr (some ⟨tp,0⟩),.ptr (some ⟨tq,0⟩),.ptr (some ⟨ta,0⟩),.int .u64 st.latest] false))
  (h2:TabAt .str 4 m tp (st.q0d.map (·.name)) (st.q0d.map (·.cells)) 8 FP) (h3:TabAt .str 9 m tq (st.pairs.map (·.key)) (st.pairs.map (·.cells)) 64 FQ) (h4:TabAt (.int .u64) 4 m ta (st.q0s.map (·.id)) (st.q0s.map (·.cells)) st.most FA)
  (h5:b∉FP) (h6:b∉FQ) (h7:b∉FA) (h8:Dj FP FQ) (h9:Dj FP FA) (h10:Dj FQ FA)
  (hf:Fr m m' FA) (ht:TabAt (.int .u64) 4 m' ta (az.map (·.id)) (az.map (·.cells)) st.most FA') (hs:∀c,c∈FA'->c∈FA\/m.next<=c) :
  ∃F',q1E m' b {st with q0s:=az} F'/\Fr m m' (b::(FP++FQ++FA))/\∀c,c∈F'->c∈b::(FP++FQ++FA)\/m.next<=c:=by
 refine⟨b::(FP++FQ++FA'),⟨tp,tq,ta,FP,FQ,FA',hf.get h1 h7,h2.frame hf h9,h3.frame hf h10,ht,h5,h6,?_,h8,(h9.symm.step hs h2.lt).symm,(h10.symm.step hs h3.lt).symm,rfl⟩,hf.mono (by simp +contextual),?_⟩
 ·intro hb;rcases hs b hb with h|h
  ·exact h7 h
  ·have:=Mem.q0u h1;omega
 ·intro c hc;simp only[xmk0,xma]at hc⊢;rcases hc with rfl|(hc|hc)|hc
  ·exact .inl (.inl rfl)
  ·exact .inl (.inr (.inl (.inl hc)))
  ·exact .inl (.inr (.inl (.inr hc)))
  ·rcases hs c hc with h|h
   ·exact .inl (.inr (.inr h))
   ·exact .inr h
theorem q1E.pairs {tp tq ta:Nat} {FP FQ FA FQ':List Nat} {qs:List q0D}
  (h1:m.get b=some (.cells [.int .i64 st.most,.ptr (some ⟨tp,0⟩),.ptr (some ⟨tq,0⟩),.ptr (some ⟨ta,0⟩),.int .u64 st.latest] false))
  (h2:TabAt .str 4 m tp (st.q0d.map (·.name)) (st.q0d.map (·.cells)) 8 FP) (h3:TabAt .str 9 m tq (st.pairs.map (·.key)) (st.pairs.map (·.cells)) 64 FQ) (h4:TabAt (.int .u64) 4 m ta (st.q0s.map (·.id)) (st.q0s.map (·.cells)) st.most FA)
  (h5:b∉FP) (h6:b∉FQ) (h7:b∉FA) (h8:Dj FP FQ) (h9:Dj FP FA) (h10:Dj FQ FA)
  (hf:Fr m m' FQ) (ht:TabAt .str 9 m' tq (qs.map (·.key)) (qs.map (·.cells)) 64 FQ') (hs:∀c,c∈FQ'->c∈FQ\/m.next<=c) :
  ∃F',q1E m' b {st with pairs:=qs} F'/\Fr m m' (b::(FP++FQ++FA))/\∀c,c∈F'->c∈b::(FP++FQ++FA)\/m.next<=c:=by
 refine⟨b::(FP++FQ'++FA),⟨tp,tq,ta,FP,FQ',FA,hf.get h1 h6,h2.frame hf h8,ht,h4.frame hf h10.symm,h5,?_,h7,(h8.symm.step hs h2.lt).symm,h9,h10.step hs h4.lt,rfl⟩,hf.mono (by simp +contextual),?_⟩
 ·intro hb;rcases hs b hb with h|h
  ·exact h6 h
  ·have:=Mem.q0u h1;omega
 ·intro c hc;simp only[xmk0,xma]at hc⊢;rcases hc with rfl|(hc|hc)|hc
  ·exact .inl (.inl rfl)
  ·exact .inl (.inr (.inl (.inl hc)))
  ·rcases hs c hc with h|h
   ·exact .inl (.inr (.inl (.inr h)))
   ·exact .inr h
  ·exact .inl (.inr (.inr hc))
end
theorem q1E.latest {m:Mem} {b:Nat} {st:LSt} {tp tq ta:Nat} {FP FQ FA:List Nat} (n:Int)
  (h1:m.get b=some (.cells [.int .i64 st.most,.ptr (some ⟨tp,0⟩),.ptr (some ⟨tq,0⟩),.ptr (some ⟨ta,0⟩),.int .u64 st.latest] false))
  (h2:TabAt .str 4 m tp (st.q0d.map (·.name)) (st.q0d.map (·.cells)) 8 FP) (h3:TabAt .str 9 m tq (st.pairs.map (·.key)) (st.pairs.map (·.cells)) 64 FQ) (h4:TabAt (.int .u64) 4 m ta (st.q0s.map (·.id)) (st.q0s.map (·.cells)) st.most FA)
  (h5:b∉FP) (h6:b∉FQ) (h7:b∉FA) {m':Mem} (hm:m'=m.put b (some (.cells [.int .i64 st.most,.ptr (some ⟨tp,0⟩),.ptr (some ⟨tq,0⟩),.ptr (some ⟨ta,0⟩),.int .u64 n] false))) :
  stV m (.ptr (some ⟨b,4⟩)) (.int .u64 n) 1=some m'/\Fr m m' [b]/\m'.get b=some (.cells [.int .i64 st.most,.ptr (some ⟨tp,0⟩),.ptr (some ⟨tq,0⟩),.ptr (some ⟨ta,0⟩),.int .u64 n] false)/\
   TabAt .str 4 m' tp (st.q0d.map (·.name)) (st.q0d.map (·.cells)) 8 FP/\TabAt .str 9 m' tq (st.pairs.map (·.key)) (st.pairs.map (·.cells)) 64 FQ/\TabAt (.int .u64) 4 m' ta (st.q0s.map (·.id)) (st.q0s.map (·.cells)) st.most FA:=by
 subst hm;have hf:=Fr.put m b (some (.cells [.int .i64 st.most,.ptr (some ⟨tp,0⟩),.ptr (some ⟨tq,0⟩),.ptr (some ⟨ta,0⟩),.int .u64 n] false));refine⟨?_,hf,q0x h1,h2.frame hf ?_,h3.frame hf ?_,h4.frame hf ?_⟩
 ·have:=q1B (v:=.int .u64 n) (o:=4) (n:=1) h1 rfl rfl (by simp);simpa using this
 ·intro c hc hm;simp only[xms]at hm;subst hm;exact h5 hc
 ·intro c hc hm;simp only[xms]at hm;subst hm;exact h6 hc
 ·intro c hc hm;simp only[xms]at hm;subst hm;exact h7 hc
theorem q6R {α β:Type} (f:α->β) (i:Nat) (x:α) (l:List α):(q7P i x l).map f=q7P i (f x) (l.map f):=by simp[q7P]
def q4R (s:List UInt8):Bool:=s.all (fun c=>decide (65<=c.toNat)&&decide (c.toNat<=90))&&decide (s.length=3)
def z6H (st:LSt) (name:List UInt8) (scale:Int):Int×LSt:=
 if q4R name=false then (41,st) else if 18<scale then (21,st) else if q1u q0g name (st.q0d.map (·.name))=true then (45,st)
 else if 8<=st.q0d.length then (2,st) else (0,{st with q0d:=q7P (lb q0g name (st.q0d.map (·.name))) ⟨name,scale,⟨0,0⟩⟩ st.q0d})
def z5m (st:LSt) (name:List UInt8):Int×Int×LSt:=
 if q1u q0g name (st.q0d.map (·.name))=false then (0,41,st) else if st.most<=st.q0s.length\/72057594037927935<=st.latest then (0,2,st)
 else (st.latest+1,0,{st with latest:=st.latest+1,q0s:=st.q0s++[⟨st.latest+1,name,⟨0,0⟩⟩]})
end
section
theorem PT.q5j (f:Nat) (t:PT) (v:Option Blk):PT.j1J f t 0 v=.node v t.lft t.rgt:=by
 cases f with
 |zero=>rfl
 |succ f=>rw[PT.q4q,xAb rfl]
theorem PT.q69:∀(f g:Nat) (t:PT) (k:Nat) (v:Option Blk),k<=f->k<=g->PT.j1J f t k v=PT.j1J g t k v
 | 0,g,t,k,v,h,_=>by
  have:k=0:=by omega
  subst this;rw[PT.q5j,PT.q5j]
 |f+1,0,t,k,v,_,h=>by
  have:k=0:=by omega
  subst this;rw[PT.q5j,PT.q5j]
 |f+1,g+1,t,k,v,h,h'=>by
  rw[PT.q4q,PT.q4q];by_cases h0:k=0
  ·rw[xAb h0,xAb h0]
  ·rw[xAa h0,xAa h0,PT.q69 f g t.lft (k / 2) v (by omega) (by omega),PT.q69 f g t.rgt (k / 2-1) v (by omega) (by omega)]
theorem PT.q4J (t:PT) (v:Option Blk):t.set 0 v=.node v t.lft t.rgt:=PT.q5j 0 t v
theorem PT.q4I (t:PT) {k:Nat} (h:k % 2=1) (v:Option Blk):t.set k v=.node t.val (t.lft.set (k / 2) v) t.rgt:=by
 obtain⟨j,rfl⟩:∃j,k=j+1:=⟨k-1,by omega⟩;unfold PT.set;rw[PT.q4q,xAa (by omega),xAb h,PT.q69 j ((j+1) / 2) _ _ _ (by omega) (by omega)]
theorem PT.q3q (t:PT) {k:Nat} (h0:k≠0) (h:k % 2≠1) (v:Option Blk):t.set k v=.node t.val t.lft (t.rgt.set (k / 2-1) v):=by
 obtain⟨j,rfl⟩:∃j,k=j+1:=⟨k-1,by omega⟩;unfold PT.set;rw[PT.q4q,xAa (by omega),xAa h,PT.q69 j ((j+1) / 2-1) _ _ _ (by omega) (by omega)]
theorem PT.q2v (v:Option Blk) (l r:PT):(PT.node v l r).lft=l:=rfl
theorem PT.q2F (v:Option Blk) (l r:PT):(PT.node v l r).rgt=r:=rfl
theorem PT.q25 (v:Option Blk) (l r:PT):(PT.node v l r).val=v:=rfl
theorem PT.set_set (k:Nat):∀(t:PT) (a b:Option Blk),(t.set k a).set k b=t.set k b:=by
 induction k using Nat.strongRecOn with
 | _ k ih=>
  intro t a b;by_cases h0:k=0
  ·subst h0;rw[PT.q4J,PT.q4J,PT.q4J,PT.q2v,PT.q2F]
  ·by_cases h1:k % 2=1
   ·rw[PT.q4I t h1,PT.q4I _ h1,PT.q4I t h1,PT.q2v,PT.q2F,PT.q25,ih (k / 2) (by omega)]
   ·rw[PT.q3q t h0 h1,PT.q3q _ h0 h1,PT.q3q t h0 h1,PT.q2v,PT.q2F,PT.q25,ih (k / 2-1) (by omega)]
theorem PT.set_comm (k:Nat):∀(j:Nat) (t:PT) (a b:Option Blk),k≠j->(t.set k a).set j b=(t.set j b).set k a:=by
 induction k using Nat.strongRecOn with
 | _ k ih=>
  intro j t a b hkj;by_cases h0:k=0
  ·subst h0;have hj:j≠0:=fun e=>hkj e.symm
   by_cases h1:j % 2=1
   ·simp only[PT.q4J,PT.q4I _ h1,PT.q2v,PT.q2F,PT.q25]
   ·simp only[PT.q4J,PT.q3q _ hj h1,PT.q2v,PT.q2F,PT.q25]
  ·by_cases hj:j=0
   ·subst hj;by_cases h1:k % 2=1
    ·simp only[PT.q4J,PT.q4I _ h1,PT.q2v,PT.q2F,PT.q25]
    ·simp only[PT.q4J,PT.q3q _ h0 h1,PT.q2v,PT.q2F,PT.q25]
   ·by_cases h1:k % 2=1<;>by_cases h2:j % 2=1
    ·simp only[PT.q4I _ h1,PT.q4I _ h2,PT.q2v,PT.q2F,PT.q25];rw[ih (k / 2) (by omega) (j / 2) _ _ _ (by omega)]
    ·simp only[PT.q4I _ h1,PT.q3q _ hj h2,PT.q2v,PT.q2F,PT.q25]
    ·simp only[PT.q3q _ h0 h1,PT.q4I _ h2,PT.q2v,PT.q2F,PT.q25]
    ·simp only[PT.q3q _ h0 h1,PT.q3q _ hj h2,PT.q2v,PT.q2F,PT.q25];rw[ih (k / 2-1) (by omega) (j / 2-1) _ _ _ (by omega)]
theorem q1S (m:Mem) (v w:Blk):(m.lay v).put m.next (some w)=m.lay w:=by
 simp only[Mem.put,Mem.lay,PT.set_set]
theorem j1h {m:Mem} {b:Nat} (h:b≠m.next) (v:Blk) (w:Option Blk):(m.lay v).put b w=(m.put b w).lay v:=by
 simp only[Mem.put,Mem.lay];rw[PT.set_comm _ _ _ _ _ (fun e=>h e.symm)]
theorem b0H (m:Mem) (cs:List AV) (ro:Bool) (b o:Nat):ld1 (m.lay (.cells cs ro)) (.ptr (some ⟨b,o⟩))=if b=m.next then cs[o]? else ld1 m (.ptr (some ⟨b,o⟩)):=by
 simp only[ld1,Mem.q0J];by_cases h:b=m.next<;>simp[h]
theorem j9f (m:Mem) (cs:List AV) (ro:Bool) (b o n:Nat):ldN (m.lay (.cells cs ro)) (.ptr (some ⟨b,o⟩)) n=if b=m.next then (if o+n<=cs.length then some (.agg ((cs.drop o).take n)) else none) else ldN m (.ptr (some ⟨b,o⟩)) n:=by
 simp only[ldN,q0C,Mem.q0J];by_cases h:b=m.next
 ·simp only[h,xAd];split<;>simp_all
 ·simp[h]
def over (cs:List AV) (o:Nat) (v:AV) (n:Nat):Option (List AV):=
 match v.cells with
 |some vs=>if vs.length=n then if o+n<=cs.length then some (cs.take o++vs++cs.drop (o+n)) else none else none
 |none=>none
theorem b1t (m:Mem) (cs:List AV) (b o:Nat) (v:AV) (n:Nat):stV (m.lay (.cells cs false)) (.ptr (some ⟨b,o⟩)) v n =
  if b=m.next then (over cs o v n).map (fun c=>m.lay (.cells c false)) else (stV m (.ptr (some ⟨b,o⟩)) v n).map (fun m'=>m'.lay (.cells cs false)):=by
 unfold over;by_cases h:b=m.next
 ·subst h;simp only[stV,q1l,q0k,xAd];cases hv:v.cells with
  |none=>rfl
  |some vs=>
   simp only;by_cases hn:vs.length=n
   ·subst hn;simp only[xAd];by_cases hl:o+vs.length<=cs.length
    ·simp only[xAb hl,q1S,xom]
    ·simp only[xAa hl,Option.map_none]
   ·simp only[xAa hn,Option.map_none]
 ·simp only[stV,q1l,j9b h,xAa h];cases hv:v.cells with
  |none=>rfl
  |some vs=>
   simp only;by_cases hn:vs.length=n
   ·simp only[xAb hn];cases hg:m.get b with
    |none=>rfl
    |some blk=>
     cases blk with
     |cells c ro=>
      cases ro with
      |true=>rfl
      |false=>
       simp only;by_cases hl:o+vs.length<=c.length
       ·simp only[xAb hl,j1h h,xom]
       ·simp only[xAa hl,Option.map_none]
     |loop _=>rfl
     |map _=>rfl
     |rmap _ _=>rfl
     |iter _ _ _=>rfl
   ·simp only[xAa hn,Option.map_none]
theorem nn1 (n:Nat):(n=n+1)=False:=by simp
theorem nn2 (n:Nat):(n=n+1+1)=False:=by simp;omega
theorem nn3 (n:Nat):(n=n+1+1+1)=False:=by simp;omega
theorem nn4 (n:Nat):(n=n+1+1+1+1)=False:=by simp;omega
theorem nn5 (n:Nat):(n=n+1+1+1+1+1)=False:=by simp;omega
theorem nn6 (n:Nat):(n=n+1+1+1+1+1+1)=False:=by simp;omega
theorem nn7 (n:Nat):(n=n+1+1+1+1+1+1+1)=False:=by simp;omega
theorem nn8 (n:Nat):(n=n+1+1+1+1+1+1+1+1)=False:=by simp;omega
def Res (m:Mem) (r:R) (v:AV):Prop:=∃m',r=some (v,m')/\Fr m m' []
theorem Res.of {m m':Mem} {v:AV} (h:Fr m m' []):Res m (some (v,m')) v:=⟨m',rfl,h⟩
theorem Res.eq {m m':Mem} {v w:AV} (h:Fr m m' []) (e:v=w):Res m (some (v,m')) w:=⟨m',by rw[e],h⟩
theorem Fr.lays (m m1:Mem) (v:Blk) (h:Fr m m1 []):Fr m (m1.lay v) []:=h.lay v
def Wd.ok (w:Wd):Prop:=-9223372036854775808<=w.hi/\w.hi<9223372036854775808/\0<=w.lo/\w.lo<18446744073709551616
def Wd.val (w:Wd):Int:=w.hi*18446744073709551616+w.lo
def Wd.of (n:Int):Wd:=⟨n / 18446744073709551616,n % 18446744073709551616⟩
def q0Q (n:Int):Bool:=decide (-170141183460469231731687303715884105728<=n)&&decide (n<170141183460469231731687303715884105728)
def Wd.res (n:Int):Wd×Int:=if q0Q n=true then (.of n,0) else (⟨0,0⟩,20)
theorem Wd.q4D {n:Int} (h:q0Q n=true):(Wd.of n).ok:=by
 simp only[q0Q,xAc,xAj]at h;unfold Wd.ok Wd.of;simp only;omega
theorem Wd.q1N (n:Int):(Wd.of n).val=n:=by unfold Wd.val Wd.of;simp only;omega
theorem Wd.q8x {w:Wd} (h:w.ok):q0Q w.val=true:=by
 obtain⟨h1,h2,h3,h4⟩:=h;unfold q0Q;rw[xAc];exact⟨dt (by unfold Wd.val;omega),dt (by unfold Wd.val;omega)⟩
theorem q2W (x:Int):IntKind.wrap .i64 x=if x % 18446744073709551616>=9223372036854775808 then x % 18446744073709551616-18446744073709551616 else x % 18446744073709551616:=by
 simp[IntKind.wrap,IntKind.bits,IntKind.signed]
theorem j9Z {hi lo n:Int} (h:q0Q n=true) (hl:0<=lo/\lo<18446744073709551616) (e:hi*18446744073709551616+lo=n) :
  AV.tup [.agg [.int .i64 hi,.int .u64 lo],.int .i64 0]=.tup [.agg (Wd.res n).1.cells,.int .i64 (Wd.res n).2]:=by
 have e1:hi=n / 18446744073709551616:=by omega
 have e2:lo=n % 18446744073709551616:=by omega
 unfold Wd.res;rw[xAb h,e1,e2];rfl
theorem q5N {n:Int} (h:q0Q n=false):AV.tup [.agg [.int .i64 0,.int .u64 0],.int .i64 20]=.tup [.agg (Wd.res n).1.cells,.int .i64 (Wd.res n).2]:=by
 unfold Wd.res;rw[h];rfl
theorem q03 {n:Int} (h1:-170141183460469231731687303715884105728<=n) (h2:n<170141183460469231731687303715884105728):q0Q n=true:=by
 unfold q0Q;rw[dt h1,dt h2];rfl
theorem q1K {n:Int} (h:n < -170141183460469231731687303715884105728\/170141183460469231731687303715884105728<=n):q0Q n=false:=by
 unfold q0Q;rcases h with h|h
 ·rw[df (by omega)];rfl
 ·rw[df (show ¬n<170141183460469231731687303715884105728 by omega),xDg]
end
section
def q7n (v:AV) (args:List AV) (m:Mem):R:=
 match args with
 |[]=>some (v,m)
 | _::_=>none
theorem j36 {E : Env} (hE : q07 E) {f : FuncId} {fn : Func} (hfn : E.P.funcs[f]? = some fn) (hb : fn.body.isSome = true) (hn : fn.name ≠ "runtime.NumGoroutine") {b : Bool} {m1 : Mem}
  (h:run E (.fn f) [] (noM (GP E.P))=some (.bool b,m1)):∀args m r m',q7n (.bool b) args m=some (r,m')->z2O E.P (.fn f) args m r m':=by
 intro args m r m' e;cases args with
 |cons _ _=>cases e
 |nil=>
  simp only[q7n,xoi,xBt]at e;obtain⟨rfl,rfl⟩:=e;refine⟨xnr _,fun p w cargs hm _ _ hv=>.inl ⟨fn,hfn,hb,hn,?_⟩⟩
  have hc:cargs=[]:=by cases cargs with|nil=>rfl|cons _ _=>simp[VRs]at hv
  subst hc;have hG:GP E.P<=w.heap.size:=by
   cases hz:GP E.P with
   |zero=>exact xBx _
   |succ n=>
    obtain⟨k,hk⟩:=hm.q23 n (by show n<GP E.P;omega);exact hm.bnd n _ hk
  have hfree:q7g (j9u (GP E.P)) (noM (GP E.P)).next m1.next:=by
   intro x h1 h2;simp only[noM]at h1;simp only[j9u];rw[xAa (by omega)]
  refine(q5D (q3f hE (.fn f) _ _ _ _ h) hfn hb hn (b4O hG) (by simp[noM]) hfree (cargs:=[]) (by simp[VRs])).mono ?_;rintro e w' ⟨cv,p',rfl,h1,h2⟩
  have keep:∀k,k<w.heap.size->w'.heap[k]? = w.heap[k]?:=fun k hk=>h2.q3d k hk fun b ci h3=>by rw[z7i]at h3;cases h3
  simp only[VR]at h1;refine⟨cv,p,rfl,by simp only[VR];exact h1,?_⟩;exact {
   le:=fun _ _ h=>h
   out:=fun _ _=>rfl
   next:=xnr _
   rel:={
    has:=fun b v ci h3 h4=>by rw[keep _ (hm.bnd b ci h4)];exact hm.has b v ci h3 h4
    inj:=hm.inj
    bnd:=fun b ci h4=>xCc (hm.bnd b ci h4) h2.size
    q23:=hm.q23}
   q4d:=fun _ _ _=>rfl
   dead:=fun _ _ h=>h
   q3d:=fun c hc _=>keep c hc
   fresh:=fun b ci h3 h4=>absurd h4 (by omega)
   ro:=fun b cs ci h3 h4=>⟨h3,keep _ (hm.bnd b ci h4)⟩
   size:=h2.size
   os:=h2.os
   output:=h2.output
   tape:=h2.tape}
end
end Go.Abs
