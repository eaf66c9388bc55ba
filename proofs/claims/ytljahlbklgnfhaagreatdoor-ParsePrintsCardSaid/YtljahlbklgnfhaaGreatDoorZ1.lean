import Derived.Test.YtljahlbklgnfhaaGreatDoorLG
import Derived.Test.YtljahlbklgnfhaaGreatDoorIT
import Derived.Test.YtljahlbklgnfhaaGreatDoorPR
import Derived.Test.YtljahlbklgnfhaaGreatDoorW1
import Derived.Test.YtljahlbklgnfhaaGreatDoorW2
import Derived.Test.YtljahlbklgnfhaaGreatDoorW3
import Derived.Test.YtljahlbklgnfhaaGreatDoorW4
import Derived.Test.YtljahlbklgnfhaaGreatDoorW5
import Derived.Test.YtljahlbklgnfhaaGreatDoorW6
import Derived.Test.YtljahlbklgnfhaaGreatDoorW7
import Derived.Test.YtljahlbklgnfhaaGreatDoorW8
import Derived.Test.YtljahlbklgnfhaaGreatDoorW9
import Derived.Test.YtljahlbklgnfhaaGreatDoorW12
import Derived.Test.YtljahlbklgnfhaaGreatDoorW13
import Derived.Test.YtljahlbklgnfhaaGreatDoorW10
import Derived.Test.YtljahlbklgnfhaaGreatDoorW11
set_option linter.unusedVariables false
set_option linter.unusedSimpArgs false
set_option linter.defProp false
namespace Go.Abs.U48
open Go.RowKit Go.Proofs
theorem J0x:Q0a env Z4x:=⟨by rintro b s h;exact J8k b s h,⟨Tryz.f36,K0h,rfl,by kernel_rfl⟩⟩
theorem Q1c:Q0a env Q0w:=⟨by rintro⟨s,c⟩ n h;exact Z8c s c n h,⟨Tryz.f40,V9h,rfl,by kernel_rfl⟩⟩
theorem K0g:Q0a env X2g:=⟨by rintro⟨xs,sep⟩ s h;exact X4n xs sep s h,⟨Tryz.f119,V2j,rfl,by kernel_rfl⟩⟩
theorem Z1y:Q0a env Q7h:=⟨by rintro⟨b,c⟩ d h;exact Z8a b c d h,⟨Tryz.f121,V2h,rfl,by kernel_rfl⟩⟩
theorem Q8d:Q0a env Q5q:=⟨by rintro⟨b,s⟩ ⟨n,c⟩ h;exact Z4f b s n c h,⟨Tryz.f123,X7e,rfl,by kernel_rfl⟩⟩
theorem Z4g:Q0a env Q9w:=⟨by rintro⟨s,n⟩ t h;exact J8l s n t h,⟨Tryz.f124,V2f,rfl,by kernel_rfl⟩⟩
theorem X4w:Q0a env J6e:=⟨by rintro⟨s,sep⟩ l h;exact X1e s sep l h,⟨Tryz.f156,V1h,rfl,by kernel_rfl⟩⟩
theorem J3c:Q0a env Z4y:=⟨by rintro⟨xs,s⟩ ok h;exact J0w xs s ok h,⟨Tryz.f157,V1g,rfl,by kernel_rfl⟩⟩
theorem X1h:Q0a env J6f:=⟨by rintro⟨s,sep⟩ ⟨a,b,ok⟩ h;exact X9s s sep a b ok h,⟨Tryz.f161,V1c,rfl,by kernel_rfl⟩⟩
theorem J0y:Q0a env Z2c:=⟨by rintro⟨s,p⟩ ok h;exact Z8b s p ok h,⟨Tryz.f169,V0x,rfl,by kernel_rfl⟩⟩
theorem J3b:Q0a env Z8o:=⟨by rintro n s h;exact X4o n s h,⟨Tryz.f189,V0p,rfl,by kernel_rfl⟩⟩
theorem X1i:Q0a env J3n:=⟨by rintro s ⟨n,bad⟩ h;exact X4p s n bad h,⟨Tryz.f199,V0l,rfl,by kernel_rfl⟩⟩
theorem Z8d:Q0a env Q9v:=⟨by rintro⟨s,a,b⟩ t h;exact Z5l s a b t h,⟨Tryz.f216,V0b,rfl,by kernel_rfl⟩⟩
theorem gG28:∀n,Q0a env (S28 (K28 n))∧Q0a env (S62 (K62 n))
 | 0=>⟨GH0 ⟨Tryz.f28,K8v,rfl,by kernel_rfl⟩ (fun⟨_,_⟩=>rfl),GH0 ⟨Tryz.f62,K8n,rfl,by kernel_rfl⟩ (fun⟨_,_⟩=>rfl)⟩
 | n+1=>by
  have ih:=gG28 n
  obtain⟨ih28,ih62⟩:=ih
  have hF28:Q0a env (S28 (F28 (K28 n) (K62 n))):=V7r ⟨ih62,ih28,trivial⟩
  have hF62:Q0a env (S62 (F62 (K28 n) (K62 n))):=V7d ⟨ih62,ih28,trivial⟩
  exact⟨hF28,hF62⟩
theorem gK28(n:Nat):Q0a env (S28 (K28 n)):=(gG28 n).1
theorem Y1b:Q0a env (S12 F12):=V8c ⟨(gK28 BIG),trivial⟩
theorem V3i:Q0a env (S74 F74):=V6x trivial
theorem J3s:Q0a env (S42 F42):=V7l ⟨V3i,trivial⟩
theorem V4q:Q0a env (S117 F117):=K7j ⟨X1h,trivial⟩
theorem V4p:Q0a env (S118 F118):=K7i trivial
theorem V3j:Q0a env (S72 F72):=V6y ⟨V4q,V4p,K0g,trivial⟩
theorem Z0s:Q0a env (J1k Q8a):=X9w trivial
theorem Z8r:Q0a env (J8w Q9x):=X9x ⟨Z0s,trivial⟩
theorem Z0t:Q0a env (J1l Q7i):=K0c trivial
theorem X2m:Q0a env (X5o J1w):=K0d ⟨Z0t,J3s,trivial⟩
theorem K1b:Q0a env (K0v J8z):=K0b ⟨Z8r,V3j,Z0s,trivial⟩
theorem X5u:Q0a env (X2k Z7f):=X4t ⟨Z0t,Q1c,J3s,trivial⟩
theorem X5t:Q0a env (X2j Z7e):=X4s ⟨Z0t,Q1c,Z0s,Q8d,J3s,J0x,Z1y,trivial⟩
theorem X2l:Q0a env (X5m J1q):=X9v ⟨X5u,Z1y,Z0t,J3s,X5t,Q8d,Z4g,J0x,trivial⟩
theorem K1a:Q0a env (K0u J8y):=K0a ⟨X2m,X2l,Z0s,Z8r,trivial⟩
theorem Y0s:Q0a env (S76 F76):=V6w trivial
theorem V4f:Q0a env (S166 F166):=K6g ⟨X1i,J3b,trivial⟩
theorem V4n:Q0a env (S125 F125):=K7g ⟨Q1c,X1h,V4f,trivial⟩
theorem Y0r:Q0a env (S77 F77):=V6v ⟨Z0t,J3s,Q1c,V4n,Z0s,trivial⟩
theorem Y0q:Q0a env (S78 F78):=V6u ⟨Q1c,Z8r,trivial⟩
theorem V4m:Q0a env (S126 F126):=K7f trivial
theorem Y0p:Q0a env (S79 F79):=V6t ⟨V4m,Z0s,Z4g,Z8r,trivial⟩
theorem Y0w:Q0a env (S44 F44):=V7k ⟨Y0s,Y0r,Y0q,Y0p,X2l,trivial⟩
theorem Y0y:Q0a env (S19 F19):=V7v ⟨X2m,Z0t,Q1c,K1b,J3s,K1a,Y0w,trivial⟩
theorem Y0v:Q0a env (S46 F46):=V7j ⟨V3j,trivial⟩
theorem Q4w:Q0a env (S84 F84):=V6p trivial
theorem J6j:Q0a env (S128 F128):=K7d trivial
theorem J6k:Q0a env (S127 F127):=K7e ⟨Q4w,J6j,trivial⟩
theorem X5q:Q0a env (S80 F80):=V6s ⟨Q4w,J6k,trivial⟩
theorem X2n:Q0a env (S133 F133):=K6z ⟨Q1c,trivial⟩
theorem X7p:Q0a env (S134 F134):=K6y ⟨Q1c,J0y,trivial⟩
theorem J3r:Q0a env (S83 F83):=V6q ⟨X2n,X7p,trivial⟩
theorem Z6q:Q0a env (S129 F129):=K7c ⟨J6j,trivial⟩
theorem X2o:Q0a env (S130 F130):=K7b trivial
theorem X5p:Q0a env (S81 F81):=V6r ⟨Q4w,J3r,J6j,Z6q,X2o,trivial⟩
theorem Z2e:Q0a env (S132 F132):=K7a ⟨J6k,trivial⟩
theorem Z2d:Q0a env (S168 F168):=K6f ⟨Q4w,trivial⟩
theorem Z8s:Q0a env (S48 F48):=V7i trivial
theorem J6i:Q0a env (S144 F144):=K6w trivial
theorem Z6p:Q0a env (S255 F255):=K4q ⟨Q4w,Z2e,Z8s,trivial⟩
theorem V3n:Q0a env (S288 F288):=K3z ⟨V3i,trivial⟩
theorem V3r:Q0a env (S276 F276):=K4e ⟨V3n,trivial⟩
theorem X7o:Q0a env (S155 F155):=K6l trivial
theorem V3o:Q0a env (S287 F287):=K4a ⟨X7o,trivial⟩
theorem V3s:Q0a env (S275 F275):=K4f ⟨V3o,trivial⟩
theorem V3q:Q0a env (S277 F277):=K4d ⟨X1i,trivial⟩
theorem J6h:Q0a env (S256 F256):=K4p ⟨Q4w,X2n,J6i,Z8s,trivial⟩
theorem gG47:∀n,Q0a env (S200 (K200 n))∧Q0a env (S252 (K252 n))
 | 0=>⟨GH0 ⟨Tryz.f200,X6z,rfl,by kernel_rfl⟩ (fun⟨_,_,_,_,_⟩=>rfl),GH0 ⟨Tryz.f252,X6x,rfl,by kernel_rfl⟩ (fun⟨_,_,_,_⟩=>rfl)⟩
 | n+1=>by
  have ih:=gG47 n
  obtain⟨ih200,ih252⟩:=ih
  have hF167:Q0a env (S167 (F167 (K200 n))):=X6t ⟨ih200,Z2e,Z2d,trivial⟩
  have hF131:Q0a env (S131 (F131 (K200 n))):=X6u ⟨hF167,Z2e,Z2d,trivial⟩
  have hF82:Q0a env (S82 (F82 (K200 n))):=K3q ⟨hF131,Z2e,trivial⟩
  have hF47:Q0a env (S47 (F47 (K200 n))):=K3u ⟨X5q,X5p,hF82,Q4w,J3r,Z8s,trivial⟩
  have hF223:Q0a env (S223 (F223 (K200 n) (K252 n))):=K5j ⟨Q4w,ih252,X5p,ih200,trivial⟩
  have hF224:Q0a env (S224 (F224 (K200 n))):=K5i ⟨Q4w,Z2d,ih200,trivial⟩
  have hF253:Q0a env (S253 (F253 (K200 n))):=K4s ⟨Z6p,hF47,trivial⟩
  have hF254:Q0a env (S254 (F254 (K252 n))):=K4r ⟨Q4w,Z4g,Q1c,J3s,V3r,V3s,X1h,V3q,ih252,trivial⟩
  have hF225:Q0a env (S225 (F225 (K200 n) (K252 n))):=K5h ⟨Q4w,hF253,X2o,hF254,trivial⟩
  have hF226:Q0a env (S226 (F226 (K200 n))):=K5g ⟨Q4w,Z6p,hF47,Z2d,ih200,trivial⟩
  have hF257:Q0a env (S257 (F257 (K252 n))):=K4o ⟨Z2d,Q4w,Z6q,ih252,trivial⟩
  have hF227:Q0a env (S227 (F227 (K200 n) (K252 n))):=K5f ⟨Q4w,Z6p,J6h,J3r,hF257,Z2d,ih200,trivial⟩
  have hF258:Q0a env (S258 (F258 (K200 n) (K252 n))):=K4n ⟨Q4w,ih252,Z6q,X5q,hF47,trivial⟩
  have hF228:Q0a env (S228 (F228 (K200 n) (K252 n))):=K5e ⟨Q4w,ih252,Z6p,X5q,J3r,hF258,trivial⟩
  have hF229:Q0a env (S229 (F229 (K200 n))):=K5d ⟨Q4w,J6h,J6k,hF253,trivial⟩
  have hF230:Q0a env (S230 (F230 (K252 n))):=K5c ⟨Q4w,ih252,Z6q,trivial⟩
  have hF231:Q0a env (S231 (F231 (K252 n))):=K5b ⟨Q4w,J3r,Z8s,Z6q,ih252,X2o,hF254,trivial⟩
  have hF200:Q0a env (S200 (F200 (K200 n) (K252 n))):=K5s ⟨Q4w,X2n,J6i,J6j,hF223,hF224,hF225,J3r,hF226,hF227,hF228,hF229,hF230,Z8s,X5p,hF231,trivial⟩
  have hF286:Q0a env (S286 (F286 (K252 n))):=K4b ⟨Q4w,J6h,J6k,hF257,Z8s,Z6p,trivial⟩
  have hF274:Q0a env (S274 (F274 (K200 n) (K252 n))):=K4g ⟨Q4w,Z6q,Z8s,hF286,J6h,hF257,Z6p,hF253,trivial⟩
  have hF252:Q0a env (S252 (F252 (K200 n) (K252 n))):=K4t ⟨hF274,Z2e,trivial⟩
  exact⟨hF200,hF252⟩
theorem V8d(n:Nat):Q0a env (S200 (K200 n)):=(gG47 n).1
theorem K0e:Q0a env (S167 (F167 (K200 BIG))):=X6t ⟨(V8d BIG),Z2e,Z2d,trivial⟩
theorem K0f:Q0a env (S131 (F131 (K200 BIG))):=X6u ⟨K0e,Z2e,Z2d,trivial⟩
theorem K8a:Q0a env (S82 (F82 (K200 BIG))):=K3q ⟨K0f,Z2e,trivial⟩
theorem K8e:Q0a env (S47 (F47 (K200 BIG))):=K3u ⟨X5q,X5p,K8a,Q4w,J3r,Z8s,trivial⟩
theorem Y0x:Q0a env (S20 F20):=V7u ⟨Y0v,K8e,Z8s,trivial⟩
theorem V3m:Q0a env (S32 F32):=V7p trivial
theorem gG15:∀n,Q0a env (S15 (K15 n))∧Q0a env (S31 (K31 n))
 | 0=>⟨GH0 ⟨Tryz.f15,V1n,rfl,by kernel_rfl⟩ (fun _=>rfl),GH0 ⟨Tryz.f31,K8r,rfl,by kernel_rfl⟩ (fun _=>rfl)⟩
 | n+1=>by
  have ih:=gG15 n
  obtain⟨ih15,ih31⟩:=ih
  have hF15:Q0a env (S15 (F15 (K15 n) (K31 n))):=V7z ⟨ih15,ih31,V3m,trivial⟩
  have hF31:Q0a env (S31 (F31 (K15 n) (K31 n))):=V7q ⟨ih15,ih31,trivial⟩
  exact⟨hF15,hF31⟩
theorem gK15(n:Nat):Q0a env (S15 (K15 n)):=(gG15 n).1
theorem gG51:∀n,Q0a env (S51 (K51 n))∧Q0a env (S86 (K86 n))
 | 0=>⟨GH0 ⟨Tryz.f51,K8p,rfl,by kernel_rfl⟩ (fun _=>rfl),GH0 ⟨Tryz.f86,K8k,rfl,by kernel_rfl⟩ (fun _=>rfl)⟩
 | n+1=>by
  have ih:=gG51 n
  obtain⟨ih51,ih86⟩:=ih
  have hF51:Q0a env (S51 (F51 (K51 n) (K86 n))):=V7f ⟨ih51,ih86,V3m,trivial⟩
  have hF86:Q0a env (S86 (F86 (K51 n) (K86 n))):=V6n ⟨ih86,ih51,trivial⟩
  exact⟨hF51,hF86⟩
theorem gK51(n:Nat):Q0a env (S51 (K51 n)):=(gG51 n).1
theorem Y0t:Q0a env (S50 F50):=V7g ⟨(gK51 BIG),trivial⟩
theorem Y0o:Q0a env (S85 F85):=V6o ⟨Y0t,trivial⟩
theorem Y0u:Q0a env (S49 F49):=V7h ⟨Y0o,trivial⟩
theorem V3w:Q0a env (S21 F21):=V7t ⟨(gK15 BIG),Y0u,trivial⟩
theorem G_F8:Q0a env (S8 F8):=g_F8 ⟨Y0y,Y0x,V3w,trivial⟩
theorem J3q:Q0a env (S99 F99):=V6l ⟨J6i,trivial⟩
theorem X7r:Q0a env (S108 F108):=K7r ⟨X7o,trivial⟩
theorem X7m:Q0a env (S263 F263):=K4i trivial
theorem V3t:Q0a env (S264 F264):=K4h trivial
theorem V3p:Q0a env (S278 F278):=K4c ⟨X7m,Q1c,trivial⟩
theorem gG29:∀n,Q0a env (S98 (K98 n))∧Q0a env (S182 (K182 n))∧Q0a env (S260 (K260 n))
 | 0=>⟨GH0 ⟨Tryz.f98,K8j,rfl,by kernel_rfl⟩ (fun _=>rfl),GH0 ⟨Tryz.f182,X7b,rfl,by kernel_rfl⟩ (fun _=>rfl),GH0 ⟨Tryz.f260,X6v,rfl,by kernel_rfl⟩ (fun _=>rfl)⟩
 | n+1=>by
  have ih:=gG29 n
  obtain⟨ih98,ih182,ih260⟩:=ih
  have hF64:Q0a env (S64 (F64 (K98 n))):=K3s ⟨ih98,J3q,trivial⟩
  have hF63:Q0a env (S63 (F63 (K98 n))):=K3t ⟨hF64,trivial⟩
  have hF85x1:Q0a env (X5l (J1p (K98 n))):=X1f ⟨hF63,trivial⟩
  have hF49x1:Q0a env (X5n (J1v (K98 n))):=X1g ⟨hF85x1,trivial⟩
  have hF29:Q0a env (S29 (F29 (K98 n))):=K3y ⟨hF49x1,trivial⟩
  have hF183:Q0a env (S183 (F183 (K182 n))):=K6b ⟨ih182,trivial⟩
  have hF85x2:Q0a env (K0r (J3u (K182 n))):=X9u ⟨hF183,trivial⟩
  have hF49x2:Q0a env (K0t (J1u (K182 n))):=X9z ⟨hF85x2,trivial⟩
  have hF143:Q0a env (S143 (F143 (K182 n))):=K6x ⟨ih182,J3q,hF49x2,trivial⟩
  have hF98:Q0a env (S98 (F98 (K98 n) (K182 n))):=V6m ⟨hF143,J3q,ih98,trivial⟩
  have hF261:Q0a env (S261 (F261 (K260 n))):=K4k ⟨ih260,trivial⟩
  have hF259x1:Q0a env (X2h (Z5d (K260 n))):=X4q ⟨hF261,trivial⟩
  have hF232x1:Q0a env (X2i (Z2g (K260 n))):=X4r ⟨hF259x1,trivial⟩
  have hF234:Q0a env (S234 (F234 (K260 n))):=K4y ⟨ih260,hF232x1,trivial⟩
  have hF233:Q0a env (S233 (F233 (K260 n))):=K4z ⟨hF234,trivial⟩
  have hF259:Q0a env (S259 (F259 (K260 n))):=K4m ⟨hF233,trivial⟩
  have hF232:Q0a env (S232 (F232 (K260 n))):=K5a ⟨hF259,trivial⟩
  have hF207:Q0a env (S207 (F207 (K260 n))):=K5r ⟨hF232,trivial⟩
  have hF208:Q0a env (S208 (F208 (K182 n))):=K5q ⟨ih182,trivial⟩
  have hF237:Q0a env (S237 (F237 (K260 n))):=K4v ⟨hF234,X7r,X7m,Q1c,V3t,trivial⟩
  have hF236:Q0a env (S236 (F236 (K260 n))):=K4w ⟨hF237,trivial⟩
  have hF262:Q0a env (S262 (F262 (K260 n))):=K4j ⟨hF236,trivial⟩
  have hF235:Q0a env (S235 (F235 (K260 n))):=K4x ⟨hF262,trivial⟩
  have hF209:Q0a env (S209 (F209 (K260 n))):=K5p ⟨hF235,trivial⟩
  have hF210:Q0a env (S210 (F210 (K98 n))):=K5o ⟨J3q,hF29,trivial⟩
  have hF212:Q0a env (S212 (F212 (K98 n) (K260 n))):=K5m ⟨J3q,hF207,hF29,trivial⟩
  have hF211:Q0a env (S211 (F211 (K98 n) (K260 n))):=K5n ⟨hF212,trivial⟩
  have hF85x3:Q0a env (K0q (J3t (K98 n) (K260 n))):=X9t ⟨hF211,trivial⟩
  have hF49x3:Q0a env (K0s (J1t (K98 n) (K260 n))):=X9y ⟨hF85x3,trivial⟩
  have hF213:Q0a env (S213 (F213 (K260 n))):=K5l ⟨hF207,hF209,Q1c,X7p,trivial⟩
  have hF182:Q0a env (S182 (F182 (K98 n) (K182 n) (K260 n))):=K6c ⟨J3q,hF207,hF208,hF29,hF209,hF210,ih182,hF49x3,hF213,trivial⟩
  have hF260:Q0a env (S260 (F260 (K98 n) (K260 n))):=K4l ⟨J6i,V3p,hF207,hF29,trivial⟩
  exact⟨hF98,hF182,hF260⟩
theorem gK98(n:Nat):Q0a env (S98 (K98 n)):=(gG29 n).1
theorem K8c:Q0a env (S64 (F64 (K98 BIG))):=K3s ⟨(gK98 BIG),J3q,trivial⟩
theorem K8d:Q0a env (S63 (F63 (K98 BIG))):=K3t ⟨K8c,trivial⟩
theorem X4u:Q0a env (X5l (J1p (K98 BIG))):=X1f ⟨K8d,trivial⟩
theorem X4v:Q0a env (X5n (J1v (K98 BIG))):=X1g ⟨X4u,trivial⟩
theorem K8i:Q0a env (S29 (F29 (K98 BIG))):=K3y ⟨X4v,trivial⟩
theorem V4l:Q0a env (S13 F13):=V8b ⟨V3w,K8i,trivial⟩
theorem V3k:Q0a env (S36 F36):=V7m trivial
theorem V4g:Q0a env (S163 F163):=K6h trivial
theorem V4o:Q0a env (S123 F123):=K7h ⟨V4g,trivial⟩
theorem Q5w:Q0a env (S103 F103):=K7w ⟨V4o,trivial⟩
theorem X7q:Q0a env (S109 F109):=K7q ⟨X4w,J3c,trivial⟩
theorem X5s:Q0a env (S67 F67):=V7b ⟨V3k,X7r,Q5w,X7q,trivial⟩
theorem V3z:Q0a env (S188 F188):=K5w ⟨J3b,trivial⟩
theorem V3y:Q0a env (S190 F190):=K5v ⟨Q5w,Z8d,trivial⟩
theorem gG35:∀n,Q0a env (S66 (K66 n))∧Q0a env (S152 (K152 n))
 | 0=>⟨GH0 ⟨Tryz.f66,K8m,rfl,by kernel_rfl⟩ (fun⟨_,_,_⟩=>rfl),GH0 ⟨Tryz.f152,X7d,rfl,by kernel_rfl⟩ (fun⟨_,_,_⟩=>rfl)⟩
 | n+1=>by
  have ih:=gG35 n
  obtain⟨ih66,ih152⟩:=ih
  have hF35:Q0a env (S35 (F35 (K66 n))):=K3w ⟨ih66,X5s,trivial⟩
  have hF102:Q0a env (S102 (F102 (K66 n))):=K7x ⟨Q5w,ih66,trivial⟩
  have hF104:Q0a env (S104 (F104 (K66 n))):=K7v ⟨Q5w,X5s,hF35,trivial⟩
  have hF151:Q0a env (S151 (F151 (K152 n))):=K6p ⟨V3z,Q5w,J3b,ih152,X7q,trivial⟩
  have hF105:Q0a env (S105 (F105 (K152 n))):=K7u ⟨Q5w,hF151,trivial⟩
  have hF106:Q0a env (S106 (F106 (K152 n))):=K7t ⟨Q5w,ih152,hF151,hF105,trivial⟩
  have hF153:Q0a env (S153 (F153 (K152 n))):=K6n ⟨Q5w,ih152,trivial⟩
  have hF154:Q0a env (S154 (F154 (K66 n) (K152 n))):=K6m ⟨Q5w,hF153,X5s,hF35,trivial⟩
  have hF107:Q0a env (S107 (F107 (K66 n) (K152 n))):=K7s ⟨Q5w,ih152,hF102,hF104,ih66,hF153,hF154,trivial⟩
  have hF66:Q0a env (S66 (F66 (K66 n) (K152 n))):=V7c ⟨hF102,Q5w,hF104,hF105,hF106,hF107,trivial⟩
  have hF191:Q0a env (S191 (F191 (K152 n))):=K5u ⟨Q5w,ih152,trivial⟩
  have hF152:Q0a env (S152 (F152 (K66 n) (K152 n))):=K6o ⟨V3y,Q5w,hF191,hF104,trivial⟩
  exact⟨hF66,hF152⟩
theorem gK66(n:Nat):Q0a env (S66 (K66 n)):=(gG35 n).1
theorem K8g:Q0a env (S35 (F35 (K66 BIG))):=K3w ⟨(gK66 BIG),X5s,trivial⟩
theorem V4e:Q0a env (S17 F17):=V7x ⟨V4l,K8g,V3k,trivial⟩
theorem G_F7:Q0a env (S7 F7):=g_F7 ⟨G_F8,(gK15 BIG),V4l,V4e,trivial⟩
theorem V3l:Q0a env (S34 F34):=V7n trivial
theorem gG16:∀n,Q0a env (S16 (K16 n))∧Q0a env (S33 (K33 n))
 | 0=>⟨GH0 ⟨Tryz.f16,V1e,rfl,by kernel_rfl⟩ (fun _=>rfl),GH0 ⟨Tryz.f33,K8q,rfl,by kernel_rfl⟩ (fun _=>rfl)⟩
 | n+1=>by
  have ih:=gG16 n
  obtain⟨ih16,ih33⟩:=ih
  have hF16:Q0a env (S16 (F16 (K16 n) (K33 n))):=V7y ⟨ih33,ih16,V3l,trivial⟩
  have hF33:Q0a env (S33 (F33 (K16 n) (K33 n))):=V7o ⟨ih33,ih16,trivial⟩
  exact⟨hF16,hF33⟩
theorem gK16(n:Nat):Q0a env (S16 (K16 n)):=(gG16 n).1
theorem gG25:∀n,Q0a env (S25 (K25 n))∧Q0a env (S61 (K61 n))
 | 0=>⟨GH0 ⟨Tryz.f25,K9l,rfl,by kernel_rfl⟩ (fun _=>rfl),GH0 ⟨Tryz.f61,K8o,rfl,by kernel_rfl⟩ (fun _=>rfl)⟩
 | n+1=>by
  have ih:=gG25 n
  obtain⟨ih25,ih61⟩:=ih
  have hF25:Q0a env (S25 (F25 (K25 n) (K61 n))):=V7s ⟨ih61,ih25,V3l,trivial⟩
  have hF61:Q0a env (S61 (F61 (K25 n) (K61 n))):=V7e ⟨ih61,ih25,trivial⟩
  exact⟨hF25,hF61⟩
theorem gK25(n:Nat):Q0a env (S25 (K25 n)):=(gG25 n).1
theorem X7s:Q0a env (S100 F100):=K7z trivial
theorem X7n:Q0a env (S172 F172):=K6d trivial
theorem V4k:Q0a env (S145 F145):=K6v ⟨X7n,trivial⟩
theorem V4c:Q0a env (S185 F185):=K5z trivial
theorem V4b:Q0a env (S186 F186):=K5y trivial
theorem V4a:Q0a env (S187 F187):=K5x trivial
theorem V4d:Q0a env (S171 F171):=K6e trivial
theorem V4j:Q0a env (S148 F148):=K6s ⟨V4a,V4d,trivial⟩
theorem V3u:Q0a env (S238 F238):=K4u trivial
theorem V3v:Q0a env (S214 F214):=K5k ⟨V3u,trivial⟩
theorem gG30:∀n,Q0a env (S101 (K101 n))∧Q0a env (S184 (K184 n))
 | 0=>⟨GH0 ⟨Tryz.f101,X7f,rfl,by kernel_rfl⟩ (fun _=>rfl),GH0 ⟨Tryz.f184,X7a,rfl,by kernel_rfl⟩ (fun _=>rfl)⟩
 | n+1=>by
  have ih:=gG30 n
  obtain⟨ih101,ih184⟩:=ih
  have hF65:Q0a env (S65 (F65 (K101 n))):=K3r ⟨X7s,ih101,trivial⟩
  have hF30:Q0a env (S30 (F30 (K101 n))):=K3x ⟨hF65,trivial⟩
  have hF146:Q0a env (S146 (F146 (K184 n))):=K6u ⟨ih184,trivial⟩
  have hF147:Q0a env (S147 (F147 (K184 n))):=K6t ⟨ih184,V4c,V4b,trivial⟩
  have hF149:Q0a env (S149 (F149 (K101 n))):=K6r ⟨ih101,trivial⟩
  have hF150:Q0a env (S150 (F150 (K101 n) (K184 n))):=K6q ⟨hF146,hF30,trivial⟩
  have hF101:Q0a env (S101 (F101 (K101 n) (K184 n))):=K7y ⟨V4k,hF146,hF147,V4j,hF149,hF65,hF30,hF150,trivial⟩
  have hF184:Q0a env (S184 (F184 (K101 n) (K184 n))):=K6a ⟨V3v,X7n,hF146,hF30,trivial⟩
  exact⟨hF101,hF184⟩
theorem V8e(n:Nat):Q0a env (S101 (K101 n)):=(gG30 n).1
theorem K8b:Q0a env (S65 (F65 (K101 BIG))):=K3r ⟨X7s,(V8e BIG),trivial⟩
theorem K8h:Q0a env (S30 (F30 (K101 BIG))):=K3x ⟨K8b,trivial⟩
theorem Y1a:Q0a env (S14 F14):=V8a ⟨(gK16 BIG),(gK25 BIG),K8h,trivial⟩
theorem Z2f:Q0a env (S112 F112):=K7n trivial
theorem X5r:Q0a env (S69 F69):=V6z ⟨Z2f,trivial⟩
theorem V4i:Q0a env (S159 F159):=K6j trivial
theorem V4h:Q0a env (S160 F160):=K6i trivial
theorem V3x:Q0a env (S193 F193):=K5t trivial
theorem gG37:∀n,Q0a env (S68 (K68 n))∧Q0a env (S158 (K158 n))
 | 0=>⟨GH0 ⟨Tryz.f68,K8l,rfl,by kernel_rfl⟩ (fun⟨_,_,_⟩=>rfl),GH0 ⟨Tryz.f158,X7c,rfl,by kernel_rfl⟩ (fun⟨_,_,_⟩=>rfl)⟩
 | n+1=>by
  have ih:=gG37 n
  obtain⟨ih68,ih158⟩:=ih
  have hF37:Q0a env (S37 (F37 (K68 n))):=K3v ⟨ih68,X5r,trivial⟩
  have hF110:Q0a env (S110 (F110 (K158 n))):=K7p ⟨Z2f,ih158,trivial⟩
  have hF111:Q0a env (S111 (F111 (K68 n))):=K7o ⟨Z2f,X5r,hF37,trivial⟩
  have hF113:Q0a env (S113 (F113 (K68 n))):=K7m ⟨Z2f,ih68,trivial⟩
  have hF114:Q0a env (S114 (F114 (K68 n) (K158 n))):=K7l ⟨Z2f,ih158,ih68,hF110,X5r,hF37,hF111,trivial⟩
  have hF115:Q0a env (S115 (F115 (K158 n))):=K7k ⟨V4i,Z2f,V4h,ih158,trivial⟩
  have hF68:Q0a env (S68 (F68 (K68 n) (K158 n))):=V7a ⟨hF110,hF111,Z2f,hF113,ih68,hF114,hF115,trivial⟩
  have hF158:Q0a env (S158 (F158 (K68 n) (K158 n))):=K6k ⟨V3x,Z2f,hF110,hF111,ih158,trivial⟩
  exact⟨hF68,hF158⟩
theorem gK68(n:Nat):Q0a env (S68 (K68 n)):=(gG37 n).1
theorem K8f:Q0a env (S37 (F37 (K68 BIG))):=K3v ⟨(gK68 BIG),X5r,trivial⟩
theorem Y0z:Q0a env (S18 F18):=V7w ⟨Y1a,K8f,trivial⟩
theorem G_F5:Q0a env (S5 F5):=g_F5 ⟨Y1b,G_F7,V4e,Y0z,trivial⟩
theorem good_F5(l1:List Cmd)(h:F5 l1=some true):Good env 5 [vC l1] [] [ab true] []:=G_F5.1 l1 true h
end Go.Abs.U48
